import Derived.Test.YtlhnfgnihakcfaaDoorProg
import Derived.WalkKit
import Derived.KernelRfl
import Derived.Deep.QuietTactic
import Derived.BigQuiet
import Derived.Deep.RegionWith
import Derived.Deep.LoopGhost
import Derived.Deep.DeepCutAuto
import Derived.Great.BuildSlice
import Derived.Laws.Rows
import Derived.Outline
import Derived.Below
import Derived.Laws.CopyOwn
import Derived.Test.YtlhnfgnihakcfaaDoorZRg
import Derived.Laws.BitsAllLaws
import Derived.Lib.Hide
import Derived.Test.YtlhnfgnihakcfaaDoorZPxAll
import Derived.Test.YtlhnfgnihakcfaaDoorZShelf
import Derived.Lib.Strings
import Derived.Lib.IndexBytes
import Derived.Lib.ConvBytes
import Derived.Test.YtlhnfgnihakcfaaDoorZHp
import Derived.Test.YtlhnfgnihakcfaaDoorZKn0
import Derived.Deep.DeepMust
namespace Go.Proofs.YtlhnfgnihakcfaaDoor.Lx
open Go.RowKit
theorem ret_int {k : IntKind} {a b : Int} (h : a = b) : Ending.returned (.int k a) = .returned (.int k b) := by rw [h]
theorem ret_bool {a b : Bool} (h : a = b) : Ending.returned (.bool a) = .returned (.bool b) := by rw [h]
def cls (c : Nat) : Int := if (65 ≤ c ∧ c ≤ 90) ∨ (97 ≤ c ∧ c ≤ 122) then 1 else if 48 ≤ c ∧ c ≤ 57 then 2 else if c = 95 then 4 else if c ∈ [40, 41, 91, 93, 123, 125, 59, 44, 58, 61, 43, 45, 42, 60, 38, 124, 33, 63] then 8 else if c ∈ [9, 10, 32] then 16 else 0
def kindsA : Array Value := ((List.range 256).map fun i => Value.int .u8 (cls i)).toArray
def zerosA : Array Value := ((List.range 256).map fun _ => Value.int .u8 0).toArray
theorem kinds_any (w : World) : Calls Tryd.prog 50 #[] w fun e w' => e = .returned (.agg kindsA) ∧ Below w.heap.size w w' := by
  have hz : ∀ W : World, (zeroValue 87).run Tryd.prog W = .ok (.agg zerosA) W := fun _ => by kernel_rfl
  go_enter Tryd.func50, Tryd.ntmps50
  go_wp2_with (first | (refine wpList_buildTo rfl 87 _ rfl _ rfl kindsA (by kernel_rfl) ?_) | (refine wpList_store_rowTo rfl 87 _ _ rfl rfl _ kindsA rfl rfl 87 zerosA (heap_alloc_new _ _) (by kernel_rfl) (by kernel_rfl) (by kernel_rfl) ?_))
  refine bodyPost_ret (v := .agg kindsA) (results_cell_row (p := 0) (ty := 87) rfl _ _ w.heap.size 87 kindsA (0, 0) (.array 256 5) rfl ?_ ?_ rfl (by kernel_rfl)) rfl ⟨rfl, ?_⟩
  · exact setRow_heap _ _ _ _ _ _ (heap_alloc_new _ _)
  · kernel_rfl
  · exact below_setRow ((Below.refl _ _).alloc (Nat.le_refl _) _) (Nat.le_refl _) _
theorem run_index_kinds (c : Nat) (h : c < 256) (w : World) : (Instr.index 87 (.agg kindsA) (.int .u8 (c : Int))).run Tryd.prog w = .ok (.int .u8 (cls c)) w := by
  have hk : kindsA[c]? = some (.int .u8 (cls c)) := by simp [kindsA, h]
  have hi : (Tryd.prog.info? 5).map (·.size) = some 1 := by kernel_rfl
  have hu : Tryd.prog.underlying 87 = some (.array 256 5) := by kernel_rfl
  have hu5 : Tryd.prog.underlying 5 = some (.int .u8) := by kernel_rfl
  cases hq : Tryd.prog.info? 5 with
  | none => simp [hq] at hi
  | some i =>
    have hs : i.size = 1 := by simpa [hq] using hi
    simp [Instr.index, asIntOf, run_underlying hu, run_underlying hu5, sizeOf, typeInfo, hq, hs, h, part, isAgg, hk]
attribute [irreducible] kindsA cls
end Go.Proofs.YtlhnfgnihakcfaaDoor.Lx
set_option linter.unusedSimpArgs false
set_option linter.unusedVariables false
namespace Go.Proofs.YtlhnfgnihakcfaaDoor.Lx
open Go.RowKit
def has (m : Nat) (c : UInt8) : Bool := (cls c.toNat).toNat &&& m != 0
theorem bit_has (m : Int) (hm : m = 16 ∨ m = 2 ∨ m = 7) (c : UInt8) : (bits .and .u8 (cls c.toNat) m != 0) = has m.toNat c := by
  have h : ∀ c : Fin 256, (bits .and .u8 (cls c.val) 16 != 0) = ((cls c.val).toNat &&& 16 != 0) ∧ (bits .and .u8 (cls c.val) 2 != 0) = ((cls c.val).toNat &&& 2 != 0) ∧ (bits .and .u8 (cls c.val) 7 != 0) = ((cls c.val).toNat &&& 7 != 0) := by unfold cls; decide +kernel
  have hc := h ⟨c.toNat, c.toNat_lt⟩
  rcases hm with rfl | rfl | rfl
  · exact hc.1
  · exact hc.2.1
  · exact hc.2.2
def runN (m : Nat) (s : ByteArray) : Nat := (s.data.toList.takeWhile (has m)).length
theorem tw_get {α : Type} (p : α → Bool) : ∀ (l : List α) (k : Nat) (h : k < l.length), k ≤ (l.takeWhile p).length → (p l[k] = true → k + 1 ≤ (l.takeWhile p).length) ∧ (p l[k] = false → (l.takeWhile p).length = k)
  | [], k, h, _ => by simp at h
  | c :: l, 0, _, _ => by
    constructor
    · intro hp; have hp : p c = true := hp; simp [hp]
    · intro hp; have hp : p c = false := hp; simp [hp]
  | c :: l, k + 1, h, hk => by
    by_cases hc : p c = true
    · simp only [List.takeWhile_cons, hc, if_true, List.length_cons] at hk ⊢
      have := tw_get p l k (by simpa using h) (by omega)
      simp only [List.getElem_cons_succ]
      exact ⟨fun hp => by have := this.1 hp; omega, fun hp => by have := this.2 hp; omega⟩
    · simp [hc] at hk
theorem run_le (m : Nat) (s : ByteArray) : runN m s ≤ s.size := by
  have := (List.takeWhile_prefix (has m) (l := s.data.toList)).length_le
  simpa [runN] using this
theorem run_step {m : Nat} {s : ByteArray} {k : Nat} (h : k < s.size) (hk : k ≤ runN m s) : (has m s[k] = true → k + 1 ≤ runN m s) ∧ (has m s[k] = false → runN m s = k) :=
  tw_get (has m) s.data.toList k (by simpa using h) hk
attribute [local irreducible] has runN
theorem run_any (s : ByteArray) (m : Int) (w : World) (hs : s.size ≤ 140737488351232) (hm : m = 16 ∨ m = 2 ∨ m = 7) :
    Calls Tryd.prog 71 #[.string s, .int .u8 m] w fun e w' => e = .returned (.int .i64 (runN m.toNat s : Int)) ∧ Below w.heap.size w w' := by
  have hrl := run_le m.toNat s
  go_enter Tryd.func71, Tryd.ntmps71
  go_wp2
  go_loopw [5] (fun i wr => ∃ k : Nat, k ≤ s.size ∧ i = .int .i64 k ∧ k ≤ runN m.toNat s ∧ Below w.heap.size w wr) (fun i _ => s.size - (intOf i).toNat)
  case atStart => exact ⟨0, by omega, rfl, by omega, Below.refl _ _⟩
  case round =>
    obtain ⟨k, hk, rfl, hle, hb⟩ := hrel
    by_cases hlt : k < s.size
    · have hx := run_index_kinds (s[k].toNat) (s[k].toNat_lt)
      have hbit := bit_has m hm s[k]
      have hd : decide ((k : Int) < (s.size : Int)) = true := decide_eq_true (by omega)
      have hst := run_step hlt hle
      go_wp2_with fail
      refine Rg.region_steps (S := fun _ => True) [.any 0, .any 1, .any 2, .any 3, .any 4, .any 6, .any 7, .any 8, .any 10, .one 5, .any 9, .any 11, .any 12, .any 13] (by kernel_rfl) (by kernel_rfl) trivial ?_
      refine Rg.p 6 ?_ ?_ rfl rfl (fun _ _ _ h => h) (by rfl) ?_ ?_ ?_; rotate_left 2; (intro w'; go_simp; with_reducible rfl); (simp only [Rg.pq, Rg.pz, Rg.ps]; rfl)
      refine Rg.p 7 ?_ ?_ rfl rfl (fun _ _ _ h => h) (by rfl) ?_ ?_ ?_; rotate_left 2; (intro w'; go_simp; with_reducible rfl); (simp only [Rg.pq, Rg.pz, Rg.ps]; rfl)
      refine Rg.p 8 ?_ ?_ rfl rfl (fun _ _ _ h => h) (by rfl) ?_ ?_ ?_; rotate_left 2; (intro w'; go_simp; with_reducible rfl); (simp only [Rg.pq, Rg.pz, Rg.ps]; rfl)
      refine Rg.p 9 ?_ ?_ rfl rfl (fun _ _ _ h => h) (by rfl) ?_ ?_ ?_; rotate_left 2; (intro w'; go_simp; with_reducible rfl); (simp only [Rg.pq, Rg.pz, Rg.ps]; rfl)
      refine Rg.p 10 ?_ ?_ rfl rfl (fun _ _ _ h => h) (by rfl) ?_ ?_ ?_; rotate_left 2; (intro w'; go_simp; with_reducible rfl); (simp only [Rg.pq, Rg.pz, Rg.ps]; rfl)
      refine Rg.p 12 ?_ ?_ rfl rfl (fun _ _ _ h => h) (by rfl) ?_ ?_ ?_; rotate_left 2; (intro w'; go_simp; with_reducible rfl); (simp only [Rg.pq, Rg.pz, Rg.ps]; rfl)
      refine Rg.p 13 ?_ ?_ rfl rfl (fun _ _ _ h => h) (by rfl) ?_ ?_ ?_; rotate_left 2; (intro w'; go_simp; with_reducible rfl); (simp only [Rg.pq, Rg.pz, Rg.ps]; rfl)
      refine Rg.p 14 ?_ ?_ rfl rfl (fun _ _ _ h => h) (by rfl) ?_ ?_ ?_; rotate_left 2; (intro w'; go_simp; with_reducible rfl); (simp only [Rg.pq, Rg.pz, Rg.ps]; rfl)
      refine Rg.p 16 ?_ ?_ rfl rfl (fun _ _ _ h => h) (by rfl) ?_ ?_ ?_; rotate_left 2; (intro w'; go_simp; with_reducible rfl); (simp only [Rg.pq, Rg.pz, Rg.ps]; rfl)
      refine Rg.s_call (N := some 11) rfl rfl Tryd.func50 (by kernel_rfl) rfl #[] (by rfl) rfl (by (try simp only [List.map_toArray, List.map_cons, List.map_nil]); first | done | rfl) ?_
      refine (kinds_any _).mono ?_
      rintro e w' ⟨rfl, hb1⟩
      have hb2 : Below w.heap.size w w' := hb.drew.trans (hb1.mono hb.size)
      clear hb1
      refine ⟨trivial, ?_⟩
      refine Rg.s_norm (a' := ?_) ?_ ?_; rotate_left; (simp only [Act.put, List.setIfInBounds_toArray, List.set_cons_zero, List.set_cons_succ]; rfl)
      refine Rg.p 15 ?_ ?_ rfl rfl (fun _ _ _ h => h) (by rfl) ?_ ?_ ?_; rotate_left 2; (intro w'; go_simp; with_reducible rfl); (simp only [Rg.pq, Rg.pz, Rg.ps]; rfl)
      refine Rg.p 17 ?_ ?_ rfl rfl (fun _ _ _ h => h) (by rfl) ?_ ?_ ?_; rotate_left 2; (intro w'; go_simp; with_reducible rfl); (simp only [Rg.pq, Rg.pz, Rg.ps]; rfl)
      refine Rg.p 18 ?_ ?_ rfl rfl (fun _ _ _ h => h) (by rfl) ?_ ?_ ?_; rotate_left 2; (intro w'; go_simp; with_reducible rfl); (simp only [Rg.pq, Rg.pz, Rg.ps]; rfl)
      refine Rg.p 19 ?_ ?_ rfl rfl (fun _ _ _ h => h) (by rfl) ?_ ?_ ?_; rotate_left 2; (intro w'; go_simp; with_reducible rfl); (simp only [Rg.pq, Rg.pz, Rg.ps]; rfl)
      refine Rg.s_done ?_
      cases hv : has m.toNat s[k] with
      | true =>
        have h1 := hst.1 hv
        clear hst hx hbit
        go_wp2
        go_roundw
        case rel => exact ⟨k + 1, by omega, by go_num, h1, hb2⟩
        case measure => simp [intOf]; omega
      | false =>
        have h1 := Lib.hid (hst.2 hv)
        clear hst hx hbit
        go_wp2
        go_ret
        exact ⟨ret_int (by rw [h1.out]), hb2⟩
    · have hd : decide ((k : Int) < (s.size : Int)) = false := decide_eq_false (by omega)
      go_wp2_with fail
      refine Rg.region_steps (S := fun _ => True) [.any 0, .any 1, .any 2, .any 3, .any 4, .any 5, .any 6, .any 7, .any 8, .any 9, .any 10, .any 11, .any 12, .any 13] (by kernel_rfl) (by kernel_rfl) trivial ?_
      refine Rg.p 6 ?_ ?_ rfl rfl (fun _ _ _ h => h) (by rfl) ?_ ?_ ?_; rotate_left 2; (intro w'; go_simp; with_reducible rfl); (simp only [Rg.pq, Rg.pz, Rg.ps]; rfl)
      refine Rg.p 7 ?_ ?_ rfl rfl (fun _ _ _ h => h) (by rfl) ?_ ?_ ?_; rotate_left 2; (intro w'; go_simp; with_reducible rfl); (simp only [Rg.pq, Rg.pz, Rg.ps]; rfl)
      refine Rg.p 8 ?_ ?_ rfl rfl (fun _ _ _ h => h) (by rfl) ?_ ?_ ?_; rotate_left 2; (intro w'; go_simp; with_reducible rfl); (simp only [Rg.pq, Rg.pz, Rg.ps]; rfl)
      refine Rg.p 9 ?_ ?_ rfl rfl (fun _ _ _ h => h) (by rfl) ?_ ?_ ?_; rotate_left 2; (intro w'; go_simp; with_reducible rfl); (simp only [Rg.pq, Rg.pz, Rg.ps]; rfl)
      refine Rg.p 10 ?_ ?_ rfl rfl (fun _ _ _ h => h) (by rfl) ?_ ?_ ?_; rotate_left 2; (intro w'; go_simp; with_reducible rfl); (simp only [Rg.pq, Rg.pz, Rg.ps]; rfl)
      refine Rg.s_off (N := some 11) (a' := ?_) rfl rfl (fun _ _ _ h => h) (by rfl) ?_ ?_; rotate_left; (simp only [Act.put, List.setIfInBounds_toArray, List.set_cons_zero, List.set_cons_succ]; rfl)
      refine Rg.s_off (N := some 12) (a' := ?_) rfl rfl (fun _ _ _ h => h) (by rfl) ?_ ?_; rotate_left; (simp only [Act.put, List.setIfInBounds_toArray, List.set_cons_zero, List.set_cons_succ]; rfl)
      refine Rg.s_off (N := some 13) (a' := ?_) rfl rfl (fun _ _ _ h => h) (by rfl) ?_ ?_; rotate_left; (simp only [Act.put, List.setIfInBounds_toArray, List.set_cons_zero, List.set_cons_succ]; rfl)
      refine Rg.s_off (N := some 14) (a' := ?_) rfl rfl (fun _ _ _ h => h) (by rfl) ?_ ?_; rotate_left; (simp only [Act.put, List.setIfInBounds_toArray, List.set_cons_zero, List.set_cons_succ]; rfl)
      refine Rg.s_off (N := some 15) (a' := ?_) rfl rfl (fun _ _ _ h => h) (by rfl) ?_ ?_; rotate_left; (simp only [Act.put, List.setIfInBounds_toArray, List.set_cons_zero, List.set_cons_succ]; rfl)
      refine Rg.s_off (N := some 16) (a' := ?_) rfl rfl (fun _ _ _ h => h) (by rfl) ?_ ?_; rotate_left; (simp only [Act.put, List.setIfInBounds_toArray, List.set_cons_zero, List.set_cons_succ]; rfl)
      refine Rg.s_off (N := some 17) (a' := ?_) rfl rfl (fun _ _ _ h => h) (by rfl) ?_ ?_; rotate_left; (simp only [Act.put, List.setIfInBounds_toArray, List.set_cons_zero, List.set_cons_succ]; rfl)
      refine Rg.s_off (N := some 18) (a' := ?_) rfl rfl (fun _ _ _ h => h) (by rfl) ?_ ?_; rotate_left; (simp only [Act.put, List.setIfInBounds_toArray, List.set_cons_zero, List.set_cons_succ]; rfl)
      refine Rg.p 19 ?_ ?_ rfl rfl (fun _ _ _ h => h) (by rfl) ?_ ?_ ?_; rotate_left 2; (intro w'; go_simp; with_reducible rfl); (simp only [Rg.pq, Rg.pz, Rg.ps]; rfl)
      refine Rg.s_done ?_
      have h1 := Lib.hid (show runN m.toNat s = k by omega)
      go_wp2
      go_ret
      exact ⟨ret_int (by rw [h1.out]), hb.drew⟩
end Go.Proofs.YtlhnfgnihakcfaaDoor.Lx
set_option linter.unusedSimpArgs false
set_option linter.unusedVariables false
namespace Go.Proofs.YtlhnfgnihakcfaaDoor.Lx
open Go.RowKit
theorem has_blank (c : UInt8) : has 16 c = Px.blankc c := by
  have h : ∀ c : Fin 256, ((cls c.val).toNat &&& 16 != 0) = Px.blankc (UInt8.ofNat c.val) := by unfold cls; decide +kernel
  have := h ⟨c.toNat, c.toNat_lt⟩
  simpa [has] using this
theorem idx_eq (l : List UInt8) (c : UInt8) : Lib.indexByte l c = match l.idxOf? c with | none => -1 | some e => (e : Int) := by
  induction l with
  | nil => rfl
  | cons d l ih =>
    rw [List.idxOf?_cons]
    simp only [Lib.indexByte]
    by_cases h : (d == c) = true
    · simp [h]
    · simp only [h, ih]
      cases l.idxOf? c with
      | none => rfl
      | some e =>
        simp only [Option.map_some, Bool.false_eq_true, if_false]
        rw [if_neg (by simp)]
        simp
theorem runN_blank (r : ByteArray) : runN 16 r = (r.data.toList.takeWhile Px.blankc).length := by
  unfold runN
  rw [show has 16 = Px.blankc from funext has_blank]
theorem pass_round (s : ByteArray) (k : Nat) (hk : k ≤ s.size) :
    ∃ b, runN 16 (s.extract k s.size) = b ∧ k + b ≤ s.size ∧ Px.ws false (s.data.toList.drop k) = b + Px.ws false (s.data.toList.drop (k + b)) ∧
      (Lib.hasPrefix (s.extract (k + b) s.size).data.toList [47, 47] = false → Px.ws false (s.data.toList.drop (k + b)) = 0) ∧
      (Lib.hasPrefix (s.extract (k + b) s.size).data.toList [47, 47] = true → Lib.indexByte (s.extract (k + b) s.size).data.toList 10 < 0 → Px.ws false (s.data.toList.drop (k + b)) = s.size - (k + b)) ∧
      (Lib.hasPrefix (s.extract (k + b) s.size).data.toList [47, 47] = true → 0 ≤ Lib.indexByte (s.extract (k + b) s.size).data.toList 10 → ∃ e : Nat, Lib.indexByte (s.extract (k + b) s.size).data.toList 10 = e ∧ 0 < e ∧ k + b + e < s.size ∧
        Px.ws false (s.data.toList.drop (k + b)) = e + Px.ws false (s.data.toList.drop (k + b + e))) := by
  have hsz : s.data.toList.length = s.size := by simp
  have e1 : runN 16 (s.extract k s.size) = ((s.data.toList.drop k).takeWhile Px.blankc).length := by rw [runN_blank, Lib.extract_to_end]
  have hle := run_le 16 (s.extract k s.size)
  have hle2 : (s.extract k s.size).size = s.size - k := by simp
  have hd : (s.data.toList.drop k).drop (runN 16 (s.extract k s.size)) = s.data.toList.drop (k + runN 16 (s.extract k s.size)) := List.drop_drop
  refine ⟨_, rfl, by omega, ?_, ?_, ?_, ?_⟩
  · have := Px.ws_blanks (s.data.toList.drop k)
    rw [← e1, hd] at this; exact this
  · intro h
    rw [Lib.extract_to_end] at h
    refine Px.ws_stop _ ?_ h
    intro c r hc
    rw [← hd, e1] at hc
    exact Px.tw_drop_head _ _ c r hc
  · intro h hi
    rw [Lib.extract_to_end] at h hi
    rw [idx_eq] at hi
    have : List.idxOf? 10 (s.data.toList.drop (k + runN 16 (s.extract k s.size))) = none := by
      cases hq : List.idxOf? 10 (s.data.toList.drop (k + runN 16 (s.extract k s.size))) with
      | none => rfl
      | some e => rw [hq] at hi; simp at hi; omega
    rw [Px.ws_note_end _ h this, List.length_drop, hsz]
  · intro h hi
    rw [Lib.extract_to_end] at h hi ⊢
    rw [idx_eq] at hi ⊢
    cases hq : List.idxOf? 10 (s.data.toList.drop (k + runN 16 (s.extract k s.size))) with
    | none => rw [hq] at hi; simp at hi
    | some e =>
      have hlt := (Px.idx_le hq).1
      rw [List.length_drop, hsz] at hlt
      have hpos : 0 < e := by
        rcases Nat.eq_zero_or_pos e with rfl | h0
        · obtain ⟨r, hr, _⟩ := Px.ws_slash _ h
          rw [hr] at hq; simp [List.idxOf?_cons] at hq
        · exact h0
      exact ⟨e, rfl, hpos, by omega, by rw [Px.ws_note_idx _ h e hq, List.drop_drop]⟩
attribute [local irreducible] runN has
theorem pass_any (s : ByteArray) (w : World) (hs : s.size ≤ 140737488351232) :
    Calls Tryd.prog 46 #[.string s] w fun e w' => e = .returned (.int .i64 (Px.ws false s.data.toList : Nat)) ∧ Below w.heap.size w w' := by
  go_enter Tryd.func46, Tryd.ntmps46
  go_wp2
  go_loopw [3] (fun n wr => ∃ k : Nat, k ≤ s.size ∧ n = .int .i64 k ∧ Hid (Px.ws false s.data.toList = k + Px.ws false (s.data.toList.drop k)) ∧ Below w.heap.size w wr) (fun n _ => s.size - (intOf n).toNat)
  case atStart => exact ⟨0, by omega, rfl, Lib.hid (by simp), Below.refl _ _⟩
  case round =>
    obtain ⟨k, hk, rfl, hle, hb⟩ := hrel
    obtain ⟨b, hbk, hk1s, hw, hA, hB, hC⟩ := pass_round s k hk
    have HBK := Lib.hid hbk
    have HW := Lib.hid hw
    have HA := Lib.hid hA
    have HB := Lib.hid hB
    have HC := Lib.hid hC
    clear hbk hw hA hB hC
    go_wp2_with fail
    refine (run_any (s.extract k s.size) 16 _ (by simp; omega) (.inl rfl)).mono ?_
    rintro e w1 ⟨rfl, hb1⟩
    have hb2 : Below w.heap.size w w1 := hb.trans (hb1.mono hb.size)
    clear hb1
    rw [show runN (Int.toNat 16) (s.extract k s.size) = b from HBK.out]
    go_wp2_with fail
    refine (Tryd.strings_HasPrefix _ _ _).mono ?_
    rintro e w2 ⟨rfl, rfl⟩
    cases hp : Lib.hasPrefix (s.extract (k + b) s.size).data.toList [47, 47] with
    | false =>
      have h0 := Lib.hid (HA.out hp)
      clear HA HB HC
      have HP := Lib.hid hp
      clear hp
      go_wp2
      go_ret
      exact ⟨ret_int (by rw [hle.out, HW.out, h0.out]; omega), hb2⟩
    | true =>
      have HB1 := Lib.hid (HB.out hp)
      have HC1 := Lib.hid (HC.out hp)
      clear HA HB HC hp
      go_wp2_with fail
      refine (Tryd.strings_IndexByte _ _ _).mono ?_
      rintro e w3 ⟨rfl, rfl⟩
      rw [show (Int.toNat 10).toUInt8 = (10 : UInt8) from rfl]
      by_cases hi : Lib.indexByte (s.extract (k + b) s.size).data.toList 10 < 0
      · have h0 := Lib.hid (HB1.out hi)
        clear HB1 HC1
        generalize Lib.indexByte (s.extract (k + b) s.size).data.toList 10 = ix at hi ⊢
        go_wp2
        go_ret
        exact ⟨ret_int (by rw [hle.out, HW.out, h0.out]; omega), hb2⟩
      · obtain ⟨e, he, hpos, hlt, hw⟩ := HC1.out (by omega)
        have HE := Lib.hid he
        have HW2 := Lib.hid hw
        clear HB1 HC1 hi he hw
        rw [show Lib.indexByte (s.extract (k + b) s.size).data.toList 10 = e from HE.out]
        go_wp2
        go_roundw
        case rel => exact ⟨k + b + e, by omega, by go_num, Lib.hid (by rw [hle.out, HW.out, HW2.out]; omega), hb2⟩
        case measure => simp [intOf]; omega
end Go.Proofs.YtlhnfgnihakcfaaDoor.Lx
set_option linter.unusedSimpArgs false
set_option linter.unusedVariables false
namespace Go.Proofs.YtlhnfgnihakcfaaDoor.Lx
open Go.RowKit
theorem below_bytes (w : World) (e : TypeId) (s : ByteArray) : Below w.heap.size w (Lib.bytesWorld w e s) := by
  refine ⟨?_, ?_, ?_, by rw [Lib.bytesWorld_size]; omega, fun k hk => Lib.bytesWorld_at_old w e s k hk⟩ <;> simp [Lib.bytesWorld, World.freeze, World.alloc, World.drew, -World.alloc_eq, -World.drew_eq]
theorem num_step {l : List UInt8} {v k c : Nat} (hk : k < l.length) (hc : (l.getD k 0).toNat = c) : Px.numVal v (l.drop k) = if v * 10 + (c - 48) < 1152921504606846976 then Px.numVal (v * 10 + (c - 48)) (l.drop (k + 1)) else none := by
  rw [List.drop_eq_getElem_cons hk]
  simp only [Px.numVal]
  rw [List.getD_eq_getElem?_getD, List.getElem?_eq_getElem hk] at hc
  simp only [Option.getD_some] at hc
  rw [hc]
def numV (o : Option Nat) : Value := match o with | some v => .tuple #[.int .u64 v, .bool true] | none => .tuple #[.int .u64 0, .bool false]
theorem number_any (s : ByteArray) (w : World) (hs : s.size ≤ 140737488351232) (hdig : ∀ k, k < s.size → 48 ≤ (s.data.toList.getD k 0).toNat ∧ (s.data.toList.getD k 0).toNat ≤ 57) :
    Calls Tryd.prog 74 #[.string s] w fun e w' => e = .returned (numV (Px.numVal 0 s.data.toList)) ∧ Below w.heap.size w w' := by
  have hcv := Lib.run_convert_string_bytes (P := Tryd.prog) w 9 69 5 s Tryd.underlying9 Tryd.underlying69 Tryd.underlying5
  have hb0 := below_bytes w 5 s
  have hcell := Lib.hid (Lib.bytesWorld_cell w 5 s)
  have HD := Lib.hid hdig
  clear hdig
  generalize grownCap w s.size 0 5 = cp at hcv
  generalize Lib.bytesWorld w 5 s = w1 at hcv hb0 hcell
  go_enter Tryd.func74, Tryd.ntmps74
  go_wp2
  clear hcv
  go_loopw [4, 10] (fun n i wr => ∃ v k : Nat, k ≤ s.size ∧ i = .int .i64 k ∧ n = .int .u64 v ∧ v < 1152921504606846976 ∧ Hid (Px.numVal 0 s.data.toList = Px.numVal v (s.data.toList.drop k)) ∧ wr = w1) (fun _ i _ => s.size - (intOf i).toNat)
  case atStart => exact ⟨0, 0, by omega, rfl, rfl, by omega, Lib.hid (by simp), rfl⟩
  case round =>
    obtain ⟨v, k, hk, rfl, rfl, hv, hle, rfl⟩ := hrel
    by_cases hlt : k < s.size
    · obtain ⟨c, hc⟩ : ∃ c : Nat, (s.data.toList.getD k 0).toNat = c := ⟨_, rfl⟩
      have hcl := hcell.out k hlt
      have hdg := HD.out k hlt
      rw [hc] at hcl hdg
      obtain ⟨hd1, hd2⟩ := hdg
      have hst := Lib.hid (num_step (v := v) (by simpa using hlt) hc)
      clear hc
      by_cases hsm : v * 10 + (c - 48) < 1152921504606846976
      · have hst2 := Lib.hid (hle.out.trans (hst.out.trans (if_pos hsm)))
        have hsm2 : (v : Int) * 10 + ((c : Int) - 48) < 1152921504606846976 := by omega
        clear hst hsm
        go_wp2
        go_roundw
        case rel => exact ⟨v * 10 + (c - 48), k + 1, by omega, by go_num, by go_num, by omega, hst2, trivial⟩
        case measure => simp [intOf]; omega
      · have hst2 := Lib.hid (hle.out.trans (hst.out.trans (if_neg hsm)))
        have hsm2 : 1152921504606846976 ≤ (v : Int) * 10 + ((c : Int) - 48) := by omega
        clear hst hsm
        go_wp2
        go_ret2
        exact ⟨by rw [hst2.out]; rfl, hb0⟩
    · have hst2 := Lib.hid (show Px.numVal 0 s.data.toList = some v by
        rw [hle.out, List.drop_of_length_le (by simp; omega)]; rfl)
      go_wp2
      go_ret2
      exact ⟨by rw [hst2.out]; rfl, hb0⟩
end Go.Proofs.YtlhnfgnihakcfaaDoor.Lx
set_option linter.unusedSimpArgs false
set_option linter.unusedVariables false
namespace Go.Proofs.YtlhnfgnihakcfaaDoor.Lx
open Go.RowKit Hp
open Go.Proofs.YtlhnfgnihakcfaaDoorW.PrintWords (results_ct)
def reservedB : List ByteArray := Px.reserved.map fun l => ⟨l.toArray⟩
def Gl (w : World) : Prop := ∃ b off c, b < w.heap.size ∧ 0 < w.heap.size ∧ w.cell? ⟨0, 0, none⟩ = some (.slice (some ⟨b, off, none⟩) 8 c) ∧ ∀ j, j < 8 → w.cell? ⟨b, off + j, none⟩ = some (.string (reservedB.getD j ByteArray.empty))
theorem Gl.below {w w' : World} (h : Gl w) (hb : Below w.heap.size w w') : Gl w' := by
  obtain ⟨b, off, c, h1, h2, h3, h4⟩ := h
  exact ⟨b, off, c, Nat.lt_of_lt_of_le h1 hb.size, Nat.lt_of_lt_of_le h2 hb.size, by rw [hb.cell (p := ⟨_, _, none⟩) h2]; exact h3, fun j hj => by rw [hb.cell (p := ⟨_, _, none⟩) h1]; exact h4 j hj⟩
def tokV (t : Px.Tok) : Value := .agg #[.int .i64 t.kind, .string ⟨t.text.toArray⟩, .int .u64 t.num, .int .i64 t.at_]
def tok0 : Value := .agg #[.int .i64 0, .string ⟨#[]⟩, .int .u64 0, .int .i64 0]
def takeV (r : Except Nat Px.Tok) : Value := match r with | .ok t => .tuple #[tokV t, .int .i64 0] | .error e => .tuple #[tok0, .int .i64 e]
theorem cls_of (c : UInt8) : (Px.digit c = true ∧ cls c.toNat = 2) ∨ (Px.digit c = false ∧ Px.letter c = true ∧ cls c.toNat = 1) ∨ (Px.digit c = false ∧ Px.letter c = false ∧ Px.signc c = true ∧ cls c.toNat = 8) ∨
    (Px.digit c = false ∧ Px.letter c = false ∧ Px.signc c = false ∧ (cls c.toNat == 2) = false ∧ (cls c.toNat == 1) = false ∧ (cls c.toNat == 8) = false) := by
  have h : ∀ c : Fin 256, let d := UInt8.ofNat c.val; (Px.digit d = true ∧ cls c.val = 2) ∨ (Px.digit d = false ∧ Px.letter d = true ∧ cls c.val = 1) ∨ (Px.digit d = false ∧ Px.letter d = false ∧ Px.signc d = true ∧ cls c.val = 8) ∨
    (Px.digit d = false ∧ Px.letter d = false ∧ Px.signc d = false ∧ (cls c.val == 2) = false ∧ (cls c.val == 1) = false ∧ (cls c.val == 8) = false) := by unfold cls; decide +kernel
  have := h ⟨c.toNat, c.toNat_lt⟩
  simpa using this
theorem has_digit (c : UInt8) : has 2 c = Px.digit c := by
  have h : ∀ c : Fin 256, ((cls c.val).toNat &&& 2 != 0) = Px.digit (UInt8.ofNat c.val) := by unfold cls; decide +kernel
  have := h ⟨c.toNat, c.toNat_lt⟩
  simpa [has] using this
theorem has_word (c : UInt8) : has 7 c = Px.wordc c := by
  have h : ∀ c : Fin 256, ((cls c.val).toNat &&& 7 != 0) = Px.wordc (UInt8.ofNat c.val) := by unfold cls; decide +kernel
  have := h ⟨c.toNat, c.toNat_lt⟩
  simpa [has] using this
theorem head_text (s : ByteArray) (n : Nat) : s.extract 0 n = ⟨(s.data.toList.take n).toArray⟩ := by rw [Lib.extract_eq]; simp
theorem runN_digit (s : ByteArray) : runN 2 s = (s.data.toList.takeWhile Px.digit).length := by
  unfold runN; rw [show has 2 = Px.digit from funext has_digit]
theorem runN_word (s : ByteArray) : runN 7 s = (s.data.toList.takeWhile Px.wordc).length := by
  unfold runN; rw [show has 7 = Px.wordc from funext has_word]
attribute [local irreducible] runN has
theorem bytes_of {s : ByteArray} {l : List UInt8} (h : s.data.toList = l) : s = ⟨l.toArray⟩ := by subst h; simp
theorem take_digit (s : ByteArray) (w : World) (hs : s.size ≤ 140737488351232) (h0 : 0 < s.size) (hd : Px.digit s[0] = true) (hc : cls (s[0].toNat) = 2) :
    Calls Tryd.prog 47 #[.string s] w fun e w' => e = .returned (takeV (Px.take s.data.toList)) ∧ Below w.heap.size w w' := by
  have hx := run_index_kinds (s[0].toNat) (s[0].toNat_lt)
  rw [hc] at hx
  have HN := Lib.hid (runN_digit s)
  have hle := run_le 2 s
  obtain ⟨n, hn⟩ : ∃ n, runN 2 s = n := ⟨_, rfl⟩
  rw [hn] at hle
  have hn2 := Lib.hid hn
  have hL : s.data.toList = s[0] :: s.data.toList.tail := by
    have : s.data.toList ≠ [] := by simp; intro h; simp [ByteArray.size, h] at h0
    rw [← List.cons_head_tail this]; simp [List.head_eq_getElem]; rfl
  have HL := Lib.hid hL
  clear hn hL
  go_enter Tryd.func47, Tryd.ntmps47
  go_wp2_with fail
  have hB := (Below.refl w.heap.size w).alloc (Nat.le_refl _) (.cells #[.int .i64 0, .string ⟨#[]⟩, .int .u64 0, .int .i64 0] 51)
  have hblk := Blk.alloc_new w [.int .i64 0, .string ⟨#[]⟩, .int .u64 0, .int .i64 0] 51
  generalize w.alloc (.cells #[.int .i64 0, .string ⟨#[]⟩, .int .u64 0, .int .i64 0] 51) = w0 at hB hblk ⊢
  generalize hg : w.heap.size = g at hblk ⊢
  refine Rg.region_steps (S := fun _ => True) [.any 1, .any 2, .one 0, .any 3] (by kernel_rfl) (by kernel_rfl) trivial ?_
  refine Rg.p 11 ?_ ?_ rfl rfl (fun _ _ _ h => h) (by rfl) ?_ ?_ ?_; rotate_left 2; (intro w'; go_simp; with_reducible rfl); (simp only [Rg.pq, Rg.pz, Rg.ps]; rfl)
  refine Rg.p 12 ?_ ?_ rfl rfl (fun _ _ _ h => h) (by rfl) ?_ ?_ ?_; rotate_left 2; (intro w'; go_simp; with_reducible rfl); (simp only [Rg.pq, Rg.pz, Rg.ps]; rfl)
  refine Rg.s_call (N := some 10) rfl rfl Tryd.func50 (by kernel_rfl) rfl #[] (by rfl) rfl (by (try simp only [List.map_toArray, List.map_cons, List.map_nil]); first | done | rfl) ?_
  refine (kinds_any _).mono ?_
  rintro e w1 ⟨rfl, hb1⟩
  have hB1 := below_next hB.drew (Nat.le_refl _) hb1
  have hblk1 := hblk.drew.below hb1 hblk.lt
  clear hb1 hB hblk
  refine ⟨trivial, ?_⟩
  refine Rg.s_norm (a' := ?_) ?_ ?_; rotate_left; (simp only [Act.put, List.setIfInBounds_toArray, List.set_cons_zero, List.set_cons_succ]; rfl)
  refine Rg.p 13 ?_ ?_ rfl rfl (fun _ _ _ h => h) (by rfl) ?_ ?_ ?_; rotate_left 2; (intro w'; go_simp; with_reducible rfl); (simp only [Rg.pq, Rg.pz, Rg.ps]; rfl)
  refine Rg.s_done ?_
  clear hx
  go_wp2_with fail
  refine (run_any s 2 _ hs (.inr (.inl rfl))).mono ?_
  rintro e w2 ⟨rfl, hb1⟩
  rw [show runN (Int.toNat 2) s = n from hn2.out]
  have hB2 := below_next hB1 (Nat.le_refl _) hb1
  have hblk2 := hblk1.below hb1 hblk1.lt
  clear hb1 hB1 hblk1
  go_wp2_with fail
  have hdt : (s.extract 0 n).data.toList = s.data.toList.takeWhile Px.digit := by
    rw [Lib.extract_data]; simp only [List.drop_zero, Nat.sub_zero]
    rw [← hn2.out, HN.out, Px.tw_eq]
  have htk : Px.take s.data.toList = match Px.numVal 0 (s.data.toList.takeWhile Px.digit) with | some v => .ok ⟨2, s.data.toList.takeWhile Px.digit, v, 0⟩ | none => .error 2 := by
    conv => lhs; rw [HL.out]
    simp only [Px.take, hd, if_true]
    rw [← HL.out]
    cases Px.numVal 0 (s.data.toList.takeWhile Px.digit) <;> rfl
  have HT := Lib.hid htk
  have HDT := Lib.hid hdt
  refine (number_any (s.extract 0 n) _ (by simp; omega) (by
    intro k hk
    rw [hdt]
    have hk2 : k < (s.data.toList.takeWhile Px.digit).length := by rw [← hdt]; simpa using hk
    rw [List.getD_eq_getElem?_getD, List.getElem?_eq_getElem hk2, Option.getD_some]
    have := Px.tw_all Px.digit s.data.toList _ (List.getElem_mem hk2)
    simp only [Px.digit, Bool.and_eq_true, decide_eq_true_eq] at this
    have h1 := UInt8.le_iff_toNat_le.1 this.1
    have h2 := UInt8.le_iff_toNat_le.1 this.2
    exact ⟨by simpa using h1, by simpa using h2⟩)).mono ?_
  rintro e w3 ⟨rfl, hb1⟩
  have hB3 := below_next hB2 (Nat.le_refl _) hb1
  have hblk3 := hblk2.below hb1 hblk2.lt
  clear hb1 hB2 hblk2
  have hc0 := hblk3.cell 0 rfl
  have hc1 := hblk3.cell 1 rfl
  have hc2 := hblk3.cell 2 rfl
  have hc3 := hblk3.cell 3 rfl
  have hf0 := hblk3.free 0
  have hf1 := hblk3.free 1
  have hf2 := hblk3.free 2
  have hf3 := hblk3.free 3
  rw [hdt]
  have HB3 := Lib.hid hB3
  have HBLK := Lib.hid hblk3
  have HG := Lib.hid hg
  clear hB3 hblk3 htk hdt hg hd hc
  cases hv : Px.numVal 0 (s.data.toList.takeWhile Px.digit) with
  | none =>
    have HV := Lib.hid hv
    clear hv
    simp only [numV]
    go_wp2
    exact bodyPost_ret (results_ct rfl _ _ g 51 _ (0, 0) _ rfl (HBLK.out.set4 _ _ _ _) Tryd.underlying51 rfl (by kernel_rfl)) rfl ⟨by rw [HT.out, HV.out]; rfl, below_set4 HB3.out (Nat.le_of_eq HG.out) _ _ _ _⟩
  | some v =>
    have HV := Lib.hid hv
    clear hv
    simp only [numV]
    go_wp2
    exact bodyPost_ret (results_ct rfl _ _ g 51 _ (0, 0) _ rfl (HBLK.out.set4 _ _ _ _) Tryd.underlying51 rfl (by kernel_rfl)) rfl ⟨by rw [HT.out, HV.out, bytes_of HDT.out]; rfl, below_set4 HB3.out (Nat.le_of_eq HG.out) _ _ _ _⟩
theorem head_list (s : ByteArray) (h0 : 0 < s.size) : s.data.toList = s[0] :: s.data.toList.tail := by
  have : s.data.toList ≠ [] := by simp; intro h; simp [ByteArray.size, h] at h0
  rw [← List.cons_head_tail this]; simp [List.head_eq_getElem]; rfl
theorem contains_eq (x : ByteArray) : Lib.containsS (reservedB.take 8) x = Px.reserved.contains x.data.toList := by
  rw [show reservedB.take 8 = Px.reserved.map (fun l => (⟨l.toArray⟩ : ByteArray)) from rfl, Bool.eq_iff_iff, Lib.containsS_iff, List.contains_iff_mem, List.mem_map]
  constructor
  · rintro ⟨l, hl, rfl⟩; simpa using hl
  · intro h; exact ⟨x.data.toList, h, by simp⟩
theorem take_letter (s : ByteArray) (w : World) (hG : Gl w) (hs : s.size ≤ 140737488351232) (h0 : 0 < s.size) (hd : Px.digit s[0] = false) (hl : Px.letter s[0] = true) (hc : cls (s[0].toNat) = 1) :
    Calls Tryd.prog 47 #[.string s] w fun e w' => e = .returned (takeV (Px.take s.data.toList)) ∧ Below w.heap.size w w' := by
  have hx := run_index_kinds (s[0].toNat) (s[0].toNat_lt)
  rw [hc] at hx
  have HN := Lib.hid (runN_word s)
  have hle := run_le 7 s
  obtain ⟨n, hn⟩ : ∃ n, runN 7 s = n := ⟨_, rfl⟩
  rw [hn] at hle
  have hn2 := Lib.hid hn
  have HL := Lib.hid (head_list s h0)
  clear hn
  go_enter Tryd.func47, Tryd.ntmps47
  go_wp2_with fail
  have hB := (Below.refl w.heap.size w).alloc (Nat.le_refl _) (.cells #[.int .i64 0, .string ⟨#[]⟩, .int .u64 0, .int .i64 0] 51)
  have hblk := Blk.alloc_new w [.int .i64 0, .string ⟨#[]⟩, .int .u64 0, .int .i64 0] 51
  generalize w.alloc (.cells #[.int .i64 0, .string ⟨#[]⟩, .int .u64 0, .int .i64 0] 51) = w0 at hB hblk ⊢
  generalize hg : w.heap.size = g at hblk ⊢
  refine Rg.region_steps (S := fun _ => True) [.any 1, .any 2, .one 0, .any 3] (by kernel_rfl) (by kernel_rfl) trivial ?_
  refine Rg.p 11 ?_ ?_ rfl rfl (fun _ _ _ h => h) (by rfl) ?_ ?_ ?_; rotate_left 2; (intro w'; go_simp; with_reducible rfl); (simp only [Rg.pq, Rg.pz, Rg.ps]; rfl)
  refine Rg.p 12 ?_ ?_ rfl rfl (fun _ _ _ h => h) (by rfl) ?_ ?_ ?_; rotate_left 2; (intro w'; go_simp; with_reducible rfl); (simp only [Rg.pq, Rg.pz, Rg.ps]; rfl)
  refine Rg.s_call (N := some 10) rfl rfl Tryd.func50 (by kernel_rfl) rfl #[] (by rfl) rfl (by (try simp only [List.map_toArray, List.map_cons, List.map_nil]); first | done | rfl) ?_
  refine (kinds_any _).mono ?_
  rintro e w1 ⟨rfl, hb1⟩
  have hB1 := below_next hB.drew (Nat.le_refl _) hb1
  have hblk1 := hblk.drew.below hb1 hblk.lt
  clear hb1 hB hblk
  refine ⟨trivial, ?_⟩
  refine Rg.s_norm (a' := ?_) ?_ ?_; rotate_left; (simp only [Act.put, List.setIfInBounds_toArray, List.set_cons_zero, List.set_cons_succ]; rfl)
  refine Rg.p 13 ?_ ?_ rfl rfl (fun _ _ _ h => h) (by rfl) ?_ ?_ ?_; rotate_left 2; (intro w'; go_simp; with_reducible rfl); (simp only [Rg.pq, Rg.pz, Rg.ps]; rfl)
  refine Rg.s_done ?_
  clear hx
  go_wp2_with fail
  refine (run_any s 7 _ hs (.inr (.inr rfl))).mono ?_
  rintro e w2 ⟨rfl, hb1⟩
  rw [show runN (Int.toNat 7) s = n from hn2.out]
  have hB2 := below_next hB1 (Nat.le_refl _) hb1
  have hblk2 := hblk1.below hb1 hblk1.lt
  clear hb1 hB1 hblk1
  have hdt : (s.extract 0 n).data.toList = s.data.toList.takeWhile Px.wordc := by
    rw [Lib.extract_data]; simp only [List.drop_zero, Nat.sub_zero]
    rw [← hn2.out, HN.out, Px.tw_eq]
  have htk : Px.take s.data.toList = if n > 20 then .error 2 else .ok ⟨if Px.reserved.contains (s.data.toList.takeWhile Px.wordc) then 3 else 1, s.data.toList.takeWhile Px.wordc, 0, 0⟩ := by
    conv => lhs; rw [HL.out]
    simp only [Px.take, hd, hl, if_true, Bool.false_eq_true, if_false]
    rw [← HL.out, ← hn2.out, HN.out]
  have HT := Lib.hid htk
  have HDT := Lib.hid hdt
  have HB2 := Lib.hid hB2
  have HBLK := Lib.hid hblk2
  have HG := Lib.hid hg
  have hc0 := hblk2.cell 0 rfl
  have hc1 := hblk2.cell 1 rfl
  have hc2 := hblk2.cell 2 rfl
  have hc3 := hblk2.cell 3 rfl
  have hf0 := hblk2.free 0
  have hf1 := hblk2.free 1
  have hf2 := hblk2.free 2
  have hf3 := hblk2.free 3
  have hglt := hblk2.lt
  obtain ⟨rb, ro, rc, hr1, hr2, hr3, hr4⟩ := hG.below hB2
  have HR4 := Lib.hid hr4
  clear hB2 hblk2 htk hdt hg hd hc hl hr4
  by_cases h20 : n > 20
  · have h20' : (20 : Int) < n := by omega
    have HT2 := Lib.hid (HT.out.trans (if_pos h20))
    clear h20
    go_wp2_with fail
    exact bodyPost_ret (results_ct rfl _ _ g 51 _ (0, 0) _ rfl ((HBLK.out.set4 _ _ _ _).alloc _) Tryd.underlying51 rfl (by kernel_rfl)) rfl ⟨by rw [HT2.out]; rfl, (below_set4 HB2.out (Nat.le_of_eq HG.out) _ _ _ _).alloc (by simpa [World.setCell] using HB2.out.size) _⟩
  · have h20' : ¬ (20 : Int) < n := by omega
    have HT2 := Lib.hid (HT.out.trans (if_neg h20))
    clear h20
    go_wp2_with fail
    refine (Tryd.slices_Contains_string rb ro 8 rc reservedB (s.extract 0 n) _ (by decide) (by omega) (by
      intro j hj
      have := HR4.out j hj
      rw [World.cell?_alloc_lt _ _ _ hr1]; exact this)).mono ?_
    rintro e w3 ⟨rfl, rfl⟩
    rw [show Lib.containsS (reservedB.take 8) (s.extract 0 n) = Px.reserved.contains (s.data.toList.takeWhile Px.wordc) from by rw [← HDT.out]; exact contains_eq _]
    cases hk : Px.reserved.contains (s.data.toList.takeWhile Px.wordc) with
    | true =>
      have HT3 := Lib.hid (HT2.out.trans (by rw [hk]; rfl : _ = Except.ok ⟨3, s.data.toList.takeWhile Px.wordc, 0, 0⟩))
      clear hk HT2 HT
      go_wp2
      exact bodyPost_ret (results_ct rfl _ _ g 51 _ (0, 0) _ rfl ((HBLK.out.set4 _ _ _ _).alloc _) Tryd.underlying51 rfl (by kernel_rfl)) rfl ⟨by rw [HT3.out, bytes_of HDT.out]; rfl, (below_set4 HB2.out (Nat.le_of_eq HG.out) _ _ _ _).alloc (by simpa [World.setCell] using HB2.out.size) _⟩
    | false =>
      have HT3 := Lib.hid (HT2.out.trans (by rw [hk]; rfl : _ = Except.ok ⟨1, s.data.toList.takeWhile Px.wordc, 0, 0⟩))
      clear hk HT2 HT
      go_wp2
      exact bodyPost_ret (results_ct rfl _ _ g 51 _ (0, 0) _ rfl ((HBLK.out.set4 _ _ _ _).alloc _) Tryd.underlying51 rfl (by kernel_rfl)) rfl ⟨by rw [HT3.out, bytes_of HDT.out]; rfl, (below_set4 HB2.out (Nat.le_of_eq HG.out) _ _ _ _).alloc (by simpa [World.setCell] using HB2.out.size) _⟩
theorem take_sign (s : ByteArray) (w : World) (hs : s.size ≤ 140737488351232) (h0 : 0 < s.size) (hd : Px.digit s[0] = false) (hl : Px.letter s[0] = false) (hsg : Px.signc s[0] = true) (hc : cls (s[0].toNat) = 8) :
    Calls Tryd.prog 47 #[.string s] w fun e w' => e = .returned (takeV (Px.take s.data.toList)) ∧ Below w.heap.size w w' := by
  have hx := run_index_kinds (s[0].toNat) (s[0].toNat_lt)
  rw [hc] at hx
  have HL := Lib.hid (head_list s h0)
  go_enter Tryd.func47, Tryd.ntmps47
  go_wp2_with fail
  have hB := (Below.refl w.heap.size w).alloc (Nat.le_refl _) (.cells #[.int .i64 0, .string ⟨#[]⟩, .int .u64 0, .int .i64 0] 51)
  have hblk := Blk.alloc_new w [.int .i64 0, .string ⟨#[]⟩, .int .u64 0, .int .i64 0] 51
  generalize w.alloc (.cells #[.int .i64 0, .string ⟨#[]⟩, .int .u64 0, .int .i64 0] 51) = w0 at hB hblk ⊢
  generalize hg : w.heap.size = g at hblk ⊢
  refine Rg.region_steps (S := fun _ => True) [.any 1, .any 2, .one 0, .any 3] (by kernel_rfl) (by kernel_rfl) trivial ?_
  refine Rg.p 11 ?_ ?_ rfl rfl (fun _ _ _ h => h) (by rfl) ?_ ?_ ?_; rotate_left 2; (intro w'; go_simp; with_reducible rfl); (simp only [Rg.pq, Rg.pz, Rg.ps]; rfl)
  refine Rg.p 12 ?_ ?_ rfl rfl (fun _ _ _ h => h) (by rfl) ?_ ?_ ?_; rotate_left 2; (intro w'; go_simp; with_reducible rfl); (simp only [Rg.pq, Rg.pz, Rg.ps]; rfl)
  refine Rg.s_call (N := some 10) rfl rfl Tryd.func50 (by kernel_rfl) rfl #[] (by rfl) rfl (by (try simp only [List.map_toArray, List.map_cons, List.map_nil]); first | done | rfl) ?_
  refine (kinds_any _).mono ?_
  rintro e w2 ⟨rfl, hb1⟩
  have hB2 := below_next hB.drew (Nat.le_refl _) hb1
  have hblk2 := hblk.drew.below hb1 hblk.lt
  clear hb1 hB hblk
  refine ⟨trivial, ?_⟩
  refine Rg.s_norm (a' := ?_) ?_ ?_; rotate_left; (simp only [Act.put, List.setIfInBounds_toArray, List.set_cons_zero, List.set_cons_succ]; rfl)
  refine Rg.p 13 ?_ ?_ rfl rfl (fun _ _ _ h => h) (by rfl) ?_ ?_ ?_; rotate_left 2; (intro w'; go_simp; with_reducible rfl); (simp only [Rg.pq, Rg.pz, Rg.ps]; rfl)
  refine Rg.s_done ?_
  clear hx
  have HB2 := Lib.hid hB2
  have HBLK := Lib.hid hblk2
  have HG := Lib.hid hg
  have hc0 := hblk2.cell 0 rfl
  have hc1 := hblk2.cell 1 rfl
  have hc2 := hblk2.cell 2 rfl
  have hc3 := hblk2.cell 3 rfl
  have hf0 := hblk2.free 0
  have hf1 := hblk2.free 1
  have hf2 := hblk2.free 2
  have hf3 := hblk2.free 3
  have hglt := hblk2.lt
  clear hB2 hblk2 hg
  go_wp2_with fail
  refine (Tryd.strings_HasPrefix _ _ _).mono ?_
  rintro e w3 ⟨rfl, rfl⟩
  have htk : Px.take s.data.toList = .ok ⟨4, if s.data.toList.take 2 == [61, 61] then [61, 61] else [s[0]], 0, 0⟩ := by
    conv => lhs; rw [HL.out]
    simp only [Px.take, hd, hl, hsg, if_true, Bool.false_eq_true, if_false]
    rw [← HL.out]
  have hp : Lib.hasPrefix s.data.toList [61, 61] = (s.data.toList.take 2 == [61, 61]) := by
    rw [Bool.eq_iff_iff, Lib.hasPrefix, List.isPrefixOf_iff_prefix, beq_iff_eq]
    rw [List.prefix_iff_eq_take]; simp; exact eq_comm
  have HT := Lib.hid htk
  clear hd hl hsg hc htk
  cases he : (s.data.toList.take 2 == [61, 61]) with
  | true =>
    have HE := Lib.hid he
    have hsz : 2 ≤ s.size := by
      have := congrArg List.length (beq_iff_eq.1 he)
      simp at this; omega
    rw [he] at hp
    have HP := Lib.hid hp
    clear he hp
    rw [show Lib.hasPrefix s.data.toList [61, 61] = true from HP.out]
    go_wp2
    exact bodyPost_ret (results_ct rfl _ _ g 51 _ (0, 0) _ rfl (HBLK.out.set4 _ _ _ _) Tryd.underlying51 rfl (by kernel_rfl)) rfl ⟨by rw [HT.out, HE.out, head_text, beq_iff_eq.1 HE.out]; rfl, below_set4 HB2.out (Nat.le_of_eq HG.out) _ _ _ _⟩
  | false =>
    have HE := Lib.hid he
    rw [he] at hp
    have HP := Lib.hid hp
    clear he hp
    rw [show Lib.hasPrefix s.data.toList [61, 61] = false from HP.out]
    go_wp2
    exact bodyPost_ret (results_ct rfl _ _ g 51 _ (0, 0) _ rfl (HBLK.out.set4 _ _ _ _) Tryd.underlying51 rfl (by kernel_rfl)) rfl ⟨by rw [HT.out, HE.out, head_text, show s.data.toList.take 1 = [s[0]] by rw [HL.out]; rfl]; rfl, below_set4 HB2.out (Nat.le_of_eq HG.out) _ _ _ _⟩
theorem take_bad (s : ByteArray) (w : World) (hs : s.size ≤ 140737488351232) (h0 : 0 < s.size) (hd : Px.digit s[0] = false) (hl : Px.letter s[0] = false) (hsg : Px.signc s[0] = false)
    (e2 : (cls s[0].toNat == 2) = false) (e1 : (cls s[0].toNat == 1) = false) (e8 : (cls s[0].toNat == 8) = false) :
    Calls Tryd.prog 47 #[.string s] w fun e w' => e = .returned (takeV (Px.take s.data.toList)) ∧ Below w.heap.size w w' := by
  have hx := run_index_kinds (s[0].toNat) (s[0].toNat_lt)
  have htk : Px.take s.data.toList = .error 3 := by
    conv => lhs; rw [head_list s h0]
    simp only [Px.take, hd, hl, hsg, Bool.false_eq_true, if_false]
  have HT := Lib.hid htk
  clear htk hd hl hsg
  have HL := Lib.hid (head_list s h0)
  go_enter Tryd.func47, Tryd.ntmps47
  go_wp2_with fail
  have hB := (Below.refl w.heap.size w).alloc (Nat.le_refl _) (.cells #[.int .i64 0, .string ⟨#[]⟩, .int .u64 0, .int .i64 0] 51)
  have hblk := Blk.alloc_new w [.int .i64 0, .string ⟨#[]⟩, .int .u64 0, .int .i64 0] 51
  generalize w.alloc (.cells #[.int .i64 0, .string ⟨#[]⟩, .int .u64 0, .int .i64 0] 51) = w0 at hB hblk ⊢
  generalize hg : w.heap.size = g at hblk ⊢
  refine Rg.region_steps (S := fun _ => True) [.any 1, .any 2, .one 0, .any 3] (by kernel_rfl) (by kernel_rfl) trivial ?_
  refine Rg.p 11 ?_ ?_ rfl rfl (fun _ _ _ h => h) (by rfl) ?_ ?_ ?_; rotate_left 2; (intro w'; go_simp; with_reducible rfl); (simp only [Rg.pq, Rg.pz, Rg.ps]; rfl)
  refine Rg.p 12 ?_ ?_ rfl rfl (fun _ _ _ h => h) (by rfl) ?_ ?_ ?_; rotate_left 2; (intro w'; go_simp; with_reducible rfl); (simp only [Rg.pq, Rg.pz, Rg.ps]; rfl)
  refine Rg.s_call (N := some 10) rfl rfl Tryd.func50 (by kernel_rfl) rfl #[] (by rfl) rfl (by (try simp only [List.map_toArray, List.map_cons, List.map_nil]); first | done | rfl) ?_
  refine (kinds_any _).mono ?_
  rintro e w2 ⟨rfl, hb1⟩
  have hB2 := below_next hB.drew (Nat.le_refl _) hb1
  have hblk2 := hblk.drew.below hb1 hblk.lt
  clear hb1 hB hblk
  refine ⟨trivial, ?_⟩
  refine Rg.s_norm (a' := ?_) ?_ ?_; rotate_left; (simp only [Act.put, List.setIfInBounds_toArray, List.set_cons_zero, List.set_cons_succ]; rfl)
  refine Rg.p 13 ?_ ?_ rfl rfl (fun _ _ _ h => h) (by rfl) ?_ ?_ ?_; rotate_left 2; (intro w'; go_simp; with_reducible rfl); (simp only [Rg.pq, Rg.pz, Rg.ps]; rfl)
  refine Rg.s_done ?_
  clear hx
  have HB2 := Lib.hid hB2
  have HBLK := Lib.hid hblk2
  have HG := Lib.hid hg
  have hc0 := hblk2.cell 0 rfl
  have hc1 := hblk2.cell 1 rfl
  have hc2 := hblk2.cell 2 rfl
  have hc3 := hblk2.cell 3 rfl
  have hf0 := hblk2.free 0
  have hf1 := hblk2.free 1
  have hf2 := hblk2.free 2
  have hf3 := hblk2.free 3
  have hglt := hblk2.lt
  clear hB2 hblk2 hg
  go_wp2
  exact bodyPost_ret (results_ct rfl _ _ g 51 _ (0, 0) _ rfl (HBLK.out.set4 _ _ _ _) Tryd.underlying51 rfl (by kernel_rfl)) rfl ⟨by rw [HT.out]; rfl, below_set4 HB2.out (Nat.le_of_eq HG.out) _ _ _ _⟩
theorem take_any (s : ByteArray) (w : World) (hG : Gl w) (hs : s.size ≤ 140737488351232) (h0 : 0 < s.size) :
    Calls Tryd.prog 47 #[.string s] w fun e w' => e = .returned (takeV (Px.take s.data.toList)) ∧ Below w.heap.size w w' := by
  rcases cls_of s[0] with ⟨h1, h2⟩ | ⟨h1, h2, h3⟩ | ⟨h1, h2, h3, h4⟩ | ⟨h1, h2, h3, h4, h5, h6⟩
  · exact take_digit s w hs h0 h1 h2
  · exact take_letter s w hG hs h0 h1 h2 h3
  · exact take_sign s w hs h0 h1 h2 h3 h4
  · exact take_bad s w hs h0 h1 h2 h3 h4 h5 h6
end Go.Proofs.YtlhnfgnihakcfaaDoor.Lx
set_option linter.unusedSimpArgs false
set_option linter.unusedVariables false
namespace Go.Proofs.YtlhnfgnihakcfaaDoor.Lx
open Go.RowKit Hp Kn
open Go.Proofs.YtlhnfgnihakcfaaDoorW.PrintWords
def lexB (a : Nat) (r : Px.Bs) : Except (Nat × Nat) (List Px.Tok) :=
  if r = [] then .ok [] else match Px.take r with
    | .error e => .error (a, e)
    | .ok t => match Px.lexA (a + t.text.length) (r.drop t.text.length) with
      | .error e => .error e
      | .ok ts => .ok ({ t with at_ := a } :: ts)
theorem lexA_B (a : Nat) (l : Px.Bs) : Px.lexA a l = lexB (a + Px.ws false l) (l.drop (Px.ws false l)) := by
  rw [Px.lexA_eq]
  unfold lexB
  by_cases h : l.drop (Px.ws false l) = []
  · rw [Px.lexStep_nil h, if_pos h]
  · rw [if_neg h]
    cases ht : Px.take (l.drop (Px.ws false l)) with
    | error e => rw [Px.lexStep_err h ht]
    | ok t => rw [Px.lexStep_tok ht]; rfl
def cat (ts : List Px.Tok) : Except (Nat × Nat) (List Px.Tok) → Except (Nat × Nat) (List Px.Tok)
  | .error e => .error e
  | .ok us => .ok (ts ++ us)
theorem lexB_err {a : Nat} {r : Px.Bs} {e : Nat} (h : r ≠ []) (ht : Px.take r = .error e) : lexB a r = .error (a, e) := by
  unfold lexB; rw [if_neg h, ht]
theorem cat_tok {a : Nat} {r : Px.Bs} {t : Px.Tok} (ts : List Px.Tok) (ht : Px.take r = .ok t) : cat ts (lexB a r) = cat (ts ++ [{ t with at_ := a }]) (lexB (a + t.text.length + Px.ws false (r.drop t.text.length)) ((r.drop t.text.length).drop (Px.ws false (r.drop t.text.length)))) := by
  have h : r ≠ [] := by rintro rfl; simp [Px.take] at ht
  rw [← lexA_B]
  conv => lhs; unfold lexB
  rw [if_neg h, ht]
  dsimp only
  cases Px.lexA (a + t.text.length) (r.drop t.text.length) with
  | error e => rfl
  | ok us => simp [cat]
theorem take_err {l : Px.Bs} {e : Nat} (h : Px.take l = .error e) : e = 2 ∨ e = 3 := by
  unfold Px.take at h
  split at h
  · injection h with h; exact .inr h.symm
  · split at h
    · split at h
      · cases h
      · injection h with h; exact .inl h.symm
    · split at h
      · split at h
        · injection h with h; exact .inl h.symm
        · cases h
      · split at h
        · cases h
        · injection h with h; exact .inr h.symm
theorem infoTok : (Tryd.prog.info? 51).map (fun i => (i.zero, i.size, i.bytes)) = some (some (.agg #[(.int .i64 0), (.string ⟨#[]⟩), (.int .u64 0), (.int .i64 0)]), 4, 40) := by kernel_rfl
def tokS (t : Px.Tok) : S51 := ⟨t.kind, ⟨t.text.toArray⟩, t.num, t.at_⟩
def lexR : Except (Nat × Nat) (List Px.Tok) → List S51 × Int × Int
  | .ok ts => (ts.map tokS, 0, 0)
  | .error e => ([], e.1, e.2)
def lexer_Lex.f (a0 : ByteArray) : Option (List S51 × Int × Int) :=
  if a0.size ≤ 140737488351232 then some (if a0.size > 20000 then ([], 0, 2) else lexR (Px.lexA 0 a0.data.toList)) else none
theorem tok_stays {w0 w2 w3 : World} {u : Value} {xs : List S51} {cs : List Value} {e : Nat} (hR : Kd.R k51 51 w2 w0.heap.size (fun _ => True) u xs) (hg : (w2.alloc (.cells cs.toArray e)).grownBy w3 u.ownBlock) : Blk w3 w2.heap.size cs e := by
  have h := hg.block w2.heap.size (by simp) (fun he => by
    have := ((Kd.R_bound hR).1 w2.heap.size he.symm).2.2.1
    omega)
  exact h.trans (heap_alloc_new _ _)
set_option maxRecDepth 100000 in
theorem lex_walk (s : ByteArray) (w : World) (hG : Gl w) (hs : s.size ≤ 20000) :
    Calls Tryd.prog 24 #[.string s] w fun e w' => ∃ v0_ : Value, e = .returned (.tuple #[v0_, .int .i64 (lexR (Px.lexA 0 s.data.toList)).2.1, .int .i64 (lexR (Px.lexA 0 s.data.toList)).2.2]) ∧ Kd.R k51 51 w' w.heap.size (fun _ => True) v0_ (lexR (Px.lexA 0 s.data.toList)).1 ∧ Below w.heap.size w w' := by
  have hs2 : decide ((20000 : Int) < (s.size : Int)) = false := decide_eq_false (by omega)
  have HG := Lib.hid hG
  have HS := Lib.hid hs
  have hsb : s.size ≤ 140737488351232 := by omega
  clear hG hs
  go_enter Tryd.func24, Tryd.ntmps24
  go_wp2_with fail
  refine (pass_any s _ (by omega)).mono ?_
  rintro e w1 ⟨rfl, hb1⟩
  obtain ⟨k0, hk0⟩ : ∃ k, Px.ws false s.data.toList = k := ⟨_, rfl⟩
  have hk0l : k0 ≤ s.size := by have := Px.ws_le false s.data.toList; simp at this; omega
  have hst := lexA_B 0 s.data.toList
  rw [hk0] at hst
  rw [hk0]
  have HK0 := Lib.hid hk0
  have HST := Lib.hid hst
  clear hk0 hst
  go_wp2_with fail
  clear hs2
  go_loopw [5, 6] (fun v at_ wr => ∃ (ts : List Px.Tok) (k : Nat), k ≤ s.size ∧ at_ = .int .i64 k ∧ ts.length ≤ k ∧ Hid (Px.lexA 0 s.data.toList = cat ts (lexB k (s.data.toList.drop k))) ∧ Hid (Kd.R k51 51 wr w.heap.size (fun _ => True) v (ts.map tokS)) ∧ Below w.heap.size w wr) (fun _ at_ _ => s.size - (intOf at_).toNat)
  case atStart => exact ⟨[], k0, hk0l, rfl, by simp, Lib.hid (by rw [HST.out]; simp [cat]; cases lexB k0 (List.drop k0 s.data.toList) <;> rfl), Lib.hid (Kd.R_nil _ _ _ _ _), hb1⟩
  case round =>
    clear HST
    obtain ⟨ts, k, hk, rfl, htl, hst, hR, hb⟩ := hrel
    by_cases hlt : k < s.size
    · go_wp2_with fail
      have hrl : (s.extract k s.size).data.toList = s.data.toList.drop k := Lib.extract_to_end s k
      refine (take_any (s.extract k s.size) _ (HG.out.below hb) (by simp; omega) (by simp; omega)).mono ?_
      rintro e w2 ⟨rfl, hb2⟩
      rw [hrl]
      have hb3 : Below w.heap.size w w2 := below_next hb (Nat.le_refl _) hb2
      have hR3 := Lib.hid (Kd.R_below hR.out hb2)
      clear hb2 hR hrl
      cases ht : Px.take (s.data.toList.drop k) with
      | error e =>
        have hfin := Lib.hid (show Px.lexA 0 s.data.toList = .error (k, e) by rw [hst.out, lexB_err (by simp; omega) ht]; rfl)
        have he : ((e : Int) != 0) = true := by rw [bne_iff_ne]; rcases take_err ht with rfl | rfl <;> decide
        clear hst ht
        simp only [takeV, tok0]
        go_wp2_with fail
        go_ret3
        exact ⟨.slice none 0 0, by rw [hfin.out]; rfl, by rw [hfin.out]; exact Kd.R_nil _ _ _ _ _, hb3.alloc hb3.size _⟩
      | ok t =>
        obtain ⟨_, hpre⟩ := Px.take_kinded ht
        have hpos := Px.take_ne ht
        have hlen : k + t.text.length ≤ s.size := by
          have := congrArg List.length hpre
          simp at this; omega
        have hst2 := Lib.hid (hst.out.trans (cat_tok ts ht))
        have hat := (Px.take_range ht).2.2.2
        have HL : Hid (ts.length ≤ 20000) := Nat.le_trans (Nat.le_trans htl hk) HS.out
        obtain ⟨n, hn⟩ : ∃ n, t.text.length = n := ⟨_, rfl⟩
        obtain ⟨m, hm⟩ : ∃ m, Px.ws false ((s.data.toList.drop k).drop n) = m := ⟨_, rfl⟩
        have hsz : (⟨t.text.toArray⟩ : ByteArray).size = n := by rw [← hn]; simp [ByteArray.size]
        rw [hn] at hlen hpos
        have HN := Lib.hid hn
        have hm2 : k + n + m ≤ s.size := by
          have := Px.ws_le false ((s.data.toList.drop k).drop n)
          rw [hm] at this
          simp at this; omega
        have HM := Lib.hid hm
        clear hst ht hpre hn hm
        simp only [takeV, tokV, hat]
        clear hat
        go_wp2_with (at_builtin; go_must (refine Kd.R_append k51 (w0 := w) w.heap.size rfl (.tmp 37) (.tmp 39) 44 51 _ 40 rfl Tryd.underlying44 infoTok rfl (by decide) (by omega) u5 (ts.map tokS) (tokS { t with at_ := k }) _ (fun _ => True) (fun _ => False) rfl (by first | (go_simp; done) | (go_simp; rfl)) (k51_mkM _ _ _ (tokS { t with at_ := k })) (fun _ hk => hk.elim) (fun _ _ => trivial) ?aO ?aB ?aS ?aL ?_); (case aO => exact Kd.R_alloc hR3.out _); (case aB => exact hb3.alloc hb3.size _); (case aS => exact Nat.le_trans hb3.size (by simp)); (case aL => have := HL.out; simp; omega); intro v1 w3 hR4 hb4 hgr _; have hcl := (tok_stays hR3.out hgr).cell 1 rfl; have HR4 := Lib.hid hR4; clear hgr hR4)
        refine (pass_any (s.extract (k + n) s.size) _ (by simp; omega)).mono ?_
        rintro e w4 ⟨rfl, hb5⟩
        rw [show Px.ws false (s.extract (k + n) s.size).data.toList = m from by rw [Lib.extract_to_end, ← List.drop_drop]; exact HM.out]
        have hb6 := below_next hb4 (Nat.le_refl _) hb5
        have hR5 := Lib.hid (Kd.R_below HR4.out hb5)
        have hst3 := Lib.hid (show Px.lexA 0 s.data.toList = cat (ts ++ [{ t with at_ := k }]) (lexB (k + n + m) (s.data.toList.drop (k + n + m))) by
          rw [hst2.out, HN.out, HM.out, List.drop_drop, List.drop_drop, show k + (n + m) = k + n + m by omega])
        clear hcl HR4 hb5 hst2 hsz
        go_wp2
        go_roundw
        case rel => exact ⟨ts ++ [{ t with at_ := k }], k + n + m, by omega, by go_num, by simp; omega, hst3, by rw [List.map_append]; exact hR5, hb6⟩
        case measure => simp [intOf]; omega
    · have hfin := Lib.hid (show Px.lexA 0 s.data.toList = .ok ts by
        rw [hst.out, List.drop_of_length_le (by simp; omega)]; simp [lexB, cat])
      go_wp2_with fail
      go_ret3
      exact ⟨u5, by rw [hfin.out]; rfl, by rw [hfin.out]; exact hR.out, hb⟩
theorem lex_long (s : ByteArray) (w : World) (hs : s.size > 20000) (hsb : s.size ≤ 140737488351232) :
    Calls Tryd.prog 24 #[.string s] w fun e w' => e = .returned (.tuple #[.slice none 0 0, .int .i64 0, .int .i64 2]) ∧ w = w' := by
  have hs2 : decide ((20000 : Int) < (s.size : Int)) = true := decide_eq_true (by omega)
  clear hs
  go_enter Tryd.func24, Tryd.ntmps24
  go_wp2_with fail
  go_ret3
  exact ⟨rfl, rfl⟩
theorem lexer_Lex.calls (a0 : ByteArray) (r1 : List S51) (r2 : Int) (r3 : Int) (w : World) (hG : Gl w) (h : lexer_Lex.f a0 = some (r1, r2, r3)) :
    Calls Tryd.prog 24 #[.string a0] w fun e w' => ∃ v0_ : Value, e = .returned (.tuple #[v0_, .int .i64 r2, .int .i64 r3]) ∧ Kd.R k51 51 w' w.heap.size (fun _ => True) v0_ r1 ∧ Below w.heap.size w w' := by
  unfold lexer_Lex.f at h
  split at h
  · rename_i hsb
    by_cases h2 : a0.size > 20000
    · rw [if_pos h2] at h
      simp only [Option.some.injEq, Prod.mk.injEq] at h
      obtain ⟨rfl, rfl, rfl⟩ := h
      refine (lex_long a0 w h2 hsb).mono ?_
      rintro e w' ⟨rfl, rfl⟩
      exact ⟨_, rfl, Kd.R_nil _ _ _ _ _, Below.refl _ _⟩
    · rw [if_neg h2] at h
      have h3 := Option.some.inj h
      refine (lex_walk a0 w hG (by omega)).mono ?_
      rw [h3]
      exact fun _ _ hh => hh
  · cases h
end Go.Proofs.YtlhnfgnihakcfaaDoor.Lx
set_option linter.unusedSimpArgs false
set_option linter.unusedVariables false
namespace Go.Proofs.YtlhnfgnihakcfaaDoor.Lx
open Go.RowKit Hp Kn
open Go.Proofs.YtlhnfgnihakcfaaDoorW.PrintWords
def lexer_IsName.f (a0 : ByteArray) : Option Bool := if a0.size ≤ 140737488351232 then some (Px.isName a0.data.toList) else none
theorem cls_ne (c : UInt8) (h : Px.letter c = false) : (cls c.toNat != 1) = true := by
  have hh : ∀ c : Fin 256, Px.letter (UInt8.ofNat c.val) = false → (cls c.val != 1) = true := by unfold cls; decide +kernel
  exact hh ⟨c.toNat, c.toNat_lt⟩ (by simpa using h)
theorem cls_eq (c : UInt8) (h : Px.letter c = true) : cls c.toNat = 1 := by
  have hh : ∀ c : Fin 256, Px.letter (UInt8.ofNat c.val) = true → cls c.val = 1 := by unfold cls; decide +kernel
  exact hh ⟨c.toNat, c.toNat_lt⟩ (by simpa using h)
theorem tw_full (p : UInt8 → Bool) : ∀ l : Px.Bs, (∀ d ∈ l, p d = true) → l.takeWhile p = l
  | [], _ => rfl
  | c :: l, h => by rw [List.takeWhile_cons, h c (by simp)]; simp only [if_true]; rw [tw_full p l (fun d hd => h d (by simp [hd]))]
theorem nil_of (s : ByteArray) (h : s.size = 0) : s.data.toList = [] := List.eq_nil_of_length_eq_zero (by rw [Array.length_toList]; exact h)
theorem isName_take (l : Px.Bs) (c : UInt8) (r : Px.Bs) (hl : l = c :: r) (hc : Px.letter c = true) : Px.isName l = match Px.take l with | .ok t => t.kind == 1 && t.text == l | .error _ => false := by
  subst hl
  have hd : Px.digit c = false := by
    have hh : ∀ c : Fin 256, Px.letter (UInt8.ofNat c.val) = true → Px.digit (UInt8.ofNat c.val) = false := by decide +kernel
    simpa using hh ⟨c.toNat, c.toNat_lt⟩ (by simpa using hc)
  have hw : Px.wordc c = true := by simp [Px.wordc, hc]
  simp only [Px.isName, Px.take, hd, hc, if_true, Bool.false_eq_true, if_false, Bool.true_and]
  by_cases hall : (c :: r).all Px.wordc = true
  · have e : (c :: r).takeWhile Px.wordc = c :: r := tw_full _ _ (List.all_eq_true.1 hall)
    rw [e, hall]
    by_cases h20 : (c :: r).length > 20
    · rw [if_pos h20]; simp at h20 ⊢; omega
    · rw [if_neg h20]
      have : (c :: r).length ≤ 20 := by omega
      simp only [this, decide_true, Bool.true_and]
      cases hr : Px.reserved.contains (c :: r) <;> simp
  · have hne : (c :: r).takeWhile Px.wordc ≠ c :: r := by
      intro e
      exact hall (List.all_eq_true.2 (by rw [← e]; exact Px.tw_all _ _))
    have hf : (c :: r).all Px.wordc = false := by simpa using hall
    rw [hf]
    by_cases h20 : ((c :: r).takeWhile Px.wordc).length > 20
    · rw [if_pos h20]; rfl
    · rw [if_neg h20]
      have : ((c :: r).takeWhile Px.wordc == c :: r) = false := by simpa using hne
      simp only [this, Bool.and_false, Bool.false_and]
theorem isName_empty (s : ByteArray) (w : World) (h : s.size = 0) : Calls Tryd.prog 28 #[.string s] w fun e w' => e = .returned (.bool false) ∧ Below w.heap.size w w' := by
  have h1 : (s.toList == []) = true := by rw [Lib.toList_data, nil_of s h]; rfl
  have h2 : s.toList = [] := by simpa using h1
  go_enter Tryd.func28, Tryd.ntmps28
  go_wp2_with fail
  refine Rg.region_steps (S := fun _ => True) [.any 0, .any 1, .any 2, .any 3, .any 4, .any 5, .any 6, .any 7, .any 8] (by kernel_rfl) (by kernel_rfl) trivial ?_
  refine Rg.p 5 ?_ ?_ rfl rfl (fun _ _ _ h => h) (by rfl) ?_ ?_ ?_; rotate_left 2; (intro w'; go_simp; with_reducible rfl); (simp only [Rg.pq, Rg.pz, Rg.ps]; rfl)
  refine Rg.p 6 ?_ ?_ rfl rfl (fun _ _ _ h => h) (by rfl) ?_ ?_ ?_; rotate_left 2; (intro w'; go_simp; with_reducible rfl); (simp only [Rg.pq, Rg.pz, Rg.ps]; rfl)
  refine Rg.p 7 ?_ ?_ rfl rfl (fun _ _ _ h => h) (by rfl) ?_ ?_ ?_; rotate_left 2; (intro w'; go_simp; with_reducible rfl); (simp only [Rg.pq, Rg.pz, Rg.ps]; rfl)
  refine Rg.s_off (N := some 8) (a' := ?_) rfl rfl (fun _ _ _ h => h) (by rfl) ?_ ?_; rotate_left; (simp only [Act.put, List.setIfInBounds_toArray, List.set_cons_zero, List.set_cons_succ]; rfl)
  refine Rg.s_off (N := some 9) (a' := ?_) rfl rfl (fun _ _ _ h => h) (by rfl) ?_ ?_; rotate_left; (simp only [Act.put, List.setIfInBounds_toArray, List.set_cons_zero, List.set_cons_succ]; rfl)
  refine Rg.s_off (N := some 10) (a' := ?_) rfl rfl (fun _ _ _ h => h) (by rfl) ?_ ?_; rotate_left; (simp only [Act.put, List.setIfInBounds_toArray, List.set_cons_zero, List.set_cons_succ]; rfl)
  refine Rg.s_off (N := some 11) (a' := ?_) rfl rfl (fun _ _ _ h => h) (by rfl) ?_ ?_; rotate_left; (simp only [Act.put, List.setIfInBounds_toArray, List.set_cons_zero, List.set_cons_succ]; rfl)
  refine Rg.s_off (N := some 12) (a' := ?_) rfl rfl (fun _ _ _ h => h) (by rfl) ?_ ?_; rotate_left; (simp only [Act.put, List.setIfInBounds_toArray, List.set_cons_zero, List.set_cons_succ]; rfl)
  refine Rg.p 13 ?_ ?_ rfl rfl (fun _ _ _ h => h) (by rfl) ?_ ?_ ?_; rotate_left 2; (intro w'; go_simp; with_reducible rfl); (simp only [Rg.pq, Rg.pz, Rg.ps]; rfl)
  refine Rg.s_done ?_
  go_wp2
  go_ret
  exact ⟨rfl, (Below.refl _ _).drew⟩
theorem isName_other (s : ByteArray) (w : World) (h0 : 0 < s.size) (hl : Px.letter s[0] = false) : Calls Tryd.prog 28 #[.string s] w fun e w' => e = .returned (.bool false) ∧ Below w.heap.size w w' := by
  have h1 : (s.toList == []) = false := by rw [Lib.toList_data, head_list s h0]; rfl
  have h2 : s.toList.isEmpty = false := by rw [Lib.toList_data, head_list s h0]; rfl
  have hx := run_index_kinds (s[0].toNat) (s[0].toNat_lt)
  have hne := cls_ne _ hl
  clear hl
  go_enter Tryd.func28, Tryd.ntmps28
  go_wp2_with fail
  refine Rg.region_steps (S := fun _ => True) [.any 0, .any 1, .any 2, .any 4, .any 5, .one 3, .any 6, .any 7, .any 8] (by kernel_rfl) (by kernel_rfl) trivial ?_
  refine Rg.p 5 ?_ ?_ rfl rfl (fun _ _ _ h => h) (by rfl) ?_ ?_ ?_; rotate_left 2; (intro w'; go_simp; with_reducible rfl); (simp only [Rg.pq, Rg.pz, Rg.ps]; rfl)
  refine Rg.p 6 ?_ ?_ rfl rfl (fun _ _ _ h => h) (by rfl) ?_ ?_ ?_; rotate_left 2; (intro w'; go_simp; with_reducible rfl); (simp only [Rg.pq, Rg.pz, Rg.ps]; rfl)
  refine Rg.p 7 ?_ ?_ rfl rfl (fun _ _ _ h => h) (by rfl) ?_ ?_ ?_; rotate_left 2; (intro w'; go_simp; with_reducible rfl); (simp only [Rg.pq, Rg.pz, Rg.ps]; rfl)
  refine Rg.p 9 ?_ ?_ rfl rfl (fun _ _ _ h => h) (by rfl) ?_ ?_ ?_; rotate_left 2; (intro w'; go_simp; with_reducible rfl); (simp only [Rg.pq, Rg.pz, Rg.ps]; rfl)
  refine Rg.p 10 ?_ ?_ rfl rfl (fun _ _ _ h => h) (by rfl) ?_ ?_ ?_; rotate_left 2; (intro w'; go_simp; with_reducible rfl); (simp only [Rg.pq, Rg.pz, Rg.ps]; rfl)
  refine Rg.s_call (N := some 8) rfl rfl Tryd.func50 (by kernel_rfl) rfl #[] (by rfl) rfl (by (try simp only [List.map_toArray, List.map_cons, List.map_nil]); first | done | rfl) ?_
  refine (kinds_any _).mono ?_
  rintro e w2 ⟨rfl, hb1⟩
  have hb2 := below_next (Below.refl w.heap.size w).drew (Nat.le_refl _) hb1
  clear hb1
  refine ⟨trivial, ?_⟩
  refine Rg.s_norm (a' := ?_) ?_ ?_; rotate_left; (simp only [Act.put, List.setIfInBounds_toArray, List.set_cons_zero, List.set_cons_succ]; rfl)
  refine Rg.p 11 ?_ ?_ rfl rfl (fun _ _ _ h => h) (by rfl) ?_ ?_ ?_; rotate_left 2; (intro w'; go_simp; with_reducible rfl); (simp only [Rg.pq, Rg.pz, Rg.ps]; rfl)
  refine Rg.p 12 ?_ ?_ rfl rfl (fun _ _ _ h => h) (by rfl) ?_ ?_ ?_; rotate_left 2; (intro w'; go_simp; with_reducible rfl); (simp only [Rg.pq, Rg.pz, Rg.ps]; rfl)
  refine Rg.p 13 ?_ ?_ rfl rfl (fun _ _ _ h => h) (by rfl) ?_ ?_ ?_; rotate_left 2; (intro w'; go_simp; with_reducible rfl); (simp only [Rg.pq, Rg.pz, Rg.ps]; rfl)
  refine Rg.s_done ?_
  go_wp2
  go_ret
  exact ⟨rfl, hb2⟩
theorem isName_letter (s : ByteArray) (w : World) (hG : Gl w) (hs : s.size ≤ 140737488351232) (h0 : 0 < s.size) (hl : Px.letter s[0] = true) : Calls Tryd.prog 28 #[.string s] w fun e w' => e = .returned (.bool (Px.isName s.data.toList)) ∧ Below w.heap.size w w' := by
  have h1 : (s.toList == []) = false := by rw [Lib.toList_data, head_list s h0]; rfl
  have h2 : s.toList.isEmpty = false := by rw [Lib.toList_data, head_list s h0]; rfl
  have hx := run_index_kinds (s[0].toNat) (s[0].toNat_lt)
  rw [cls_eq _ hl] at hx
  have HG := Lib.hid hG
  have HL := Lib.hid hl
  clear hl hG
  go_enter Tryd.func28, Tryd.ntmps28
  go_wp2_with fail
  refine Rg.region_steps (S := fun _ => True) [.any 0, .any 1, .any 2, .any 4, .any 5, .one 3, .any 6, .any 7, .any 8] (by kernel_rfl) (by kernel_rfl) trivial ?_
  refine Rg.p 5 ?_ ?_ rfl rfl (fun _ _ _ h => h) (by rfl) ?_ ?_ ?_; rotate_left 2; (intro w'; go_simp; with_reducible rfl); (simp only [Rg.pq, Rg.pz, Rg.ps]; rfl)
  refine Rg.p 6 ?_ ?_ rfl rfl (fun _ _ _ h => h) (by rfl) ?_ ?_ ?_; rotate_left 2; (intro w'; go_simp; with_reducible rfl); (simp only [Rg.pq, Rg.pz, Rg.ps]; rfl)
  refine Rg.p 7 ?_ ?_ rfl rfl (fun _ _ _ h => h) (by rfl) ?_ ?_ ?_; rotate_left 2; (intro w'; go_simp; with_reducible rfl); (simp only [Rg.pq, Rg.pz, Rg.ps]; rfl)
  refine Rg.p 9 ?_ ?_ rfl rfl (fun _ _ _ h => h) (by rfl) ?_ ?_ ?_; rotate_left 2; (intro w'; go_simp; with_reducible rfl); (simp only [Rg.pq, Rg.pz, Rg.ps]; rfl)
  refine Rg.p 10 ?_ ?_ rfl rfl (fun _ _ _ h => h) (by rfl) ?_ ?_ ?_; rotate_left 2; (intro w'; go_simp; with_reducible rfl); (simp only [Rg.pq, Rg.pz, Rg.ps]; rfl)
  refine Rg.s_call (N := some 8) rfl rfl Tryd.func50 (by kernel_rfl) rfl #[] (by rfl) rfl (by (try simp only [List.map_toArray, List.map_cons, List.map_nil]); first | done | rfl) ?_
  refine (kinds_any _).mono ?_
  rintro e w2 ⟨rfl, hb1⟩
  have hb2 := below_next (Below.refl w.heap.size w).drew (Nat.le_refl _) hb1
  clear hb1
  refine ⟨trivial, ?_⟩
  refine Rg.s_norm (a' := ?_) ?_ ?_; rotate_left; (simp only [Act.put, List.setIfInBounds_toArray, List.set_cons_zero, List.set_cons_succ]; rfl)
  refine Rg.p 11 ?_ ?_ rfl rfl (fun _ _ _ h => h) (by rfl) ?_ ?_ ?_; rotate_left 2; (intro w'; go_simp; with_reducible rfl); (simp only [Rg.pq, Rg.pz, Rg.ps]; rfl)
  refine Rg.p 12 ?_ ?_ rfl rfl (fun _ _ _ h => h) (by rfl) ?_ ?_ ?_; rotate_left 2; (intro w'; go_simp; with_reducible rfl); (simp only [Rg.pq, Rg.pz, Rg.ps]; rfl)
  refine Rg.p 13 ?_ ?_ rfl rfl (fun _ _ _ h => h) (by rfl) ?_ ?_ ?_; rotate_left 2; (intro w'; go_simp; with_reducible rfl); (simp only [Rg.pq, Rg.pz, Rg.ps]; rfl)
  refine Rg.s_done ?_
  clear hx
  go_wp2_with fail
  refine (take_any s _ (HG.out.below hb2) hs h0).mono ?_
  rintro e w3 ⟨rfl, hb3⟩
  have hb4 := below_next hb2 (Nat.le_refl _) hb3
  clear hb2 hb3
  have hfin := isName_take s.data.toList s[0] _ (head_list s h0) HL.out
  cases ht : Px.take s.data.toList with
  | error e =>
    have hF := Lib.hid (show Px.isName s.data.toList = false by rw [hfin, ht])
    have he : ((e : Int) == 0) = false := by rw [beq_eq_false_iff_ne]; rcases take_err ht with rfl | rfl <;> decide
    clear hfin ht
    simp only [takeV, tok0]
    go_wp2
    go_ret
    exact ⟨ret_bool hF.out.symm, hb4.alloc hb4.size _⟩
  | ok t =>
    have hF := Lib.hid (show Px.isName s.data.toList = (t.kind == 1 && t.text == s.data.toList) by rw [hfin, ht])
    clear hfin ht
    simp only [takeV, tokV]
    by_cases hk : t.kind = 1
    · have hk1 : ((t.kind : Int) == 1) = true := by rw [hk]; rfl
      have hF2 := Lib.hid (show Px.isName s.data.toList = (t.text == s.data.toList) by rw [hF.out, hk]; simp)
      clear hk hF
      have e1 : (t.text == s.data.toList) = (t.text == s.toList) := by rw [Lib.toList_data]
      have hF3 := Lib.hid (hF2.out.trans e1)
      clear e1 hF2
      go_wp2
      go_ret
      exact ⟨ret_bool hF3.out.symm, hb4.alloc hb4.size _⟩
    · have hk1 : ((t.kind : Int) == 1) = false := by rw [beq_eq_false_iff_ne]; omega
      have hF2 := Lib.hid (show Px.isName s.data.toList = false by rw [hF.out]; simp [hk])
      clear hk hF
      go_wp2
      go_ret
      exact ⟨ret_bool hF2.out.symm, hb4.alloc hb4.size _⟩
theorem lexer_IsName.calls (a0 : ByteArray) (r : Bool) (w : World) (hG : Gl w) (h : lexer_IsName.f a0 = some r) :
    Calls Tryd.prog 28 #[.string a0] w fun e w' => e = .returned (.bool r) ∧ Below w.heap.size w w' := by
  unfold lexer_IsName.f at h
  split at h
  · rename_i hs
    have := Option.some.inj h
    subst this
    rcases Nat.eq_zero_or_pos a0.size with h0 | h0
    · rw [show Px.isName a0.data.toList = false by rw [nil_of a0 h0]; rfl]
      exact isName_empty a0 w h0
    · cases hl : Px.letter a0[0] with
      | true => exact isName_letter a0 w hG hs h0 hl
      | false =>
        rw [show Px.isName a0.data.toList = false by rw [head_list a0 h0]; simp [Px.isName, hl]]
        exact isName_other a0 w h0 hl
  · cases h
end Go.Proofs.YtlhnfgnihakcfaaDoor.Lx
