import Derived.Test.YtlhnfgnihakcfaaDoorLxKinds
import Derived.Test.YtlhnfgnihakcfaaDoorRg
import Derived.Laws.BitsAllLaws
import Derived.Lib.Hide
set_option linter.unusedSimpArgs false
set_option linter.unusedVariables false
namespace Go.Proofs.YtlhnfgnihakcfaaDoor.Lx
open Go.RowKit
def has (m : Nat) (c : UInt8) : Bool := (cls c.toNat).toNat &&& m != 0
theorem bit_has (m : Int) (hm : m = 16 ∨ m = 2 ∨ m = 7) (c : UInt8) : (bits .and .u8 (cls c.toNat) m != 0) = has m.toNat c := by
  have h : ∀ c : Fin 256, (bits .and .u8 (cls c.val) 16 != 0) = ((cls c.val).toNat &&& 16 != 0) ∧ (bits .and .u8 (cls c.val) 2 != 0) = ((cls c.val).toNat &&& 2 != 0) ∧ (bits .and .u8 (cls c.val) 7 != 0) = ((cls c.val).toNat &&& 7 != 0) := by unfold cls; decide +kernel
  have hc := h ⟨c.toNat, c.toNat_lt⟩
  rcases hm with rfl | rfl | rfl
  · exact hc.1
  · exact hc.2.1
  · exact hc.2.2
/-- how far a run goes -/
def runN (m : Nat) (s : ByteArray) : Nat := (s.data.toList.takeWhile (has m)).length
theorem tw_get {α : Type} (p : α → Bool) : ∀ (l : List α) (k : Nat) (h : k < l.length), k ≤ (l.takeWhile p).length → (p l[k] = true → k + 1 ≤ (l.takeWhile p).length) ∧ (p l[k] = false → (l.takeWhile p).length = k)
  | [], k, h, _ => by simp at h
  | c :: l, 0, _, _ => by
    constructor
    · intro hp; have hp : p c = true := hp; simp [hp]
    · intro hp; have hp : p c = false := hp; simp [hp]
  | c :: l, k + 1, h, hk => by
    by_cases hc : p c = true
    · simp only [List.takeWhile_cons, hc, if_true, List.length_cons] at hk ⊢
      have := tw_get p l k (by simpa using h) (by omega)
      simp only [List.getElem_cons_succ]
      exact ⟨fun hp => by have := this.1 hp; omega, fun hp => by have := this.2 hp; omega⟩
    · simp [hc] at hk
theorem run_le (m : Nat) (s : ByteArray) : runN m s ≤ s.size := by
  have := (List.takeWhile_prefix (has m) (l := s.data.toList)).length_le
  simpa [runN] using this
theorem run_step {m : Nat} {s : ByteArray} {k : Nat} (h : k < s.size) (hk : k ≤ runN m s) : (has m s[k] = true → k + 1 ≤ runN m s) ∧ (has m s[k] = false → runN m s = k) :=
  tw_get (has m) s.data.toList k (by simpa using h) hk
attribute [local irreducible] has runN
theorem run_any (s : ByteArray) (m : Int) (w : World) (hs : s.size ≤ 140737488351232) (hm : m = 16 ∨ m = 2 ∨ m = 7) :
    Calls Tryd.prog 71 #[.string s, .int .u8 m] w fun e w' => e = .returned (.int .i64 (runN m.toNat s : Int)) ∧ Below w.heap.size w w' := by
  have hrl := run_le m.toNat s
  go_enter Tryd.func71, Tryd.ntmps71
  go_wp2
  go_loopw [5] (fun i wr => ∃ k : Nat, k ≤ s.size ∧ i = .int .i64 k ∧ k ≤ runN m.toNat s ∧ Below w.heap.size w wr) (fun i _ => s.size - (intOf i).toNat)
  case atStart => exact ⟨0, by omega, rfl, by omega, Below.refl _ _⟩
  case round =>
    obtain ⟨k, hk, rfl, hle, hb⟩ := hrel
    by_cases hlt : k < s.size
    · have hx := run_index_kinds (s[k].toNat) (s[k].toNat_lt)
      have hbit := bit_has m hm s[k]
      have hd : decide ((k : Int) < (s.size : Int)) = true := decide_eq_true (by omega)
      have hst := run_step hlt hle
      go_wp2_with fail
      refine Rg.region_steps (S := fun _ => True) [.any 0, .any 1, .any 2, .any 3, .any 4, .any 6, .any 7, .any 8, .any 10, .one 5, .any 9, .any 11, .any 12, .any 13] (by kernel_rfl) (by kernel_rfl) trivial ?_
      refine Rg.p 6 ?_ ?_ rfl rfl (fun _ _ _ h => h) (by rfl) ?_ ?_ ?_; rotate_left 2; (intro w'; go_simp; with_reducible rfl); (simp only [Rg.pq, Rg.pz, Rg.ps]; rfl)
      refine Rg.p 7 ?_ ?_ rfl rfl (fun _ _ _ h => h) (by rfl) ?_ ?_ ?_; rotate_left 2; (intro w'; go_simp; with_reducible rfl); (simp only [Rg.pq, Rg.pz, Rg.ps]; rfl)
      refine Rg.p 8 ?_ ?_ rfl rfl (fun _ _ _ h => h) (by rfl) ?_ ?_ ?_; rotate_left 2; (intro w'; go_simp; with_reducible rfl); (simp only [Rg.pq, Rg.pz, Rg.ps]; rfl)
      refine Rg.p 9 ?_ ?_ rfl rfl (fun _ _ _ h => h) (by rfl) ?_ ?_ ?_; rotate_left 2; (intro w'; go_simp; with_reducible rfl); (simp only [Rg.pq, Rg.pz, Rg.ps]; rfl)
      refine Rg.p 10 ?_ ?_ rfl rfl (fun _ _ _ h => h) (by rfl) ?_ ?_ ?_; rotate_left 2; (intro w'; go_simp; with_reducible rfl); (simp only [Rg.pq, Rg.pz, Rg.ps]; rfl)
      refine Rg.p 12 ?_ ?_ rfl rfl (fun _ _ _ h => h) (by rfl) ?_ ?_ ?_; rotate_left 2; (intro w'; go_simp; with_reducible rfl); (simp only [Rg.pq, Rg.pz, Rg.ps]; rfl)
      refine Rg.p 13 ?_ ?_ rfl rfl (fun _ _ _ h => h) (by rfl) ?_ ?_ ?_; rotate_left 2; (intro w'; go_simp; with_reducible rfl); (simp only [Rg.pq, Rg.pz, Rg.ps]; rfl)
      refine Rg.p 14 ?_ ?_ rfl rfl (fun _ _ _ h => h) (by rfl) ?_ ?_ ?_; rotate_left 2; (intro w'; go_simp; with_reducible rfl); (simp only [Rg.pq, Rg.pz, Rg.ps]; rfl)
      refine Rg.p 16 ?_ ?_ rfl rfl (fun _ _ _ h => h) (by rfl) ?_ ?_ ?_; rotate_left 2; (intro w'; go_simp; with_reducible rfl); (simp only [Rg.pq, Rg.pz, Rg.ps]; rfl)
      refine Rg.s_call (N := some 11) rfl rfl Tryd.func50 (by kernel_rfl) rfl #[] (by rfl) rfl (by (try simp only [List.map_toArray, List.map_cons, List.map_nil]); first | done | rfl) ?_
      refine (kinds_any _).mono ?_
      rintro e w' ⟨rfl, hb1⟩
      have hb2 : Below w.heap.size w w' := hb.drew.trans (hb1.mono hb.size)
      clear hb1
      refine ⟨trivial, ?_⟩
      refine Rg.s_norm (a' := ?_) ?_ ?_; rotate_left; (simp only [Act.put, List.setIfInBounds_toArray, List.set_cons_zero, List.set_cons_succ]; rfl)
      refine Rg.p 15 ?_ ?_ rfl rfl (fun _ _ _ h => h) (by rfl) ?_ ?_ ?_; rotate_left 2; (intro w'; go_simp; with_reducible rfl); (simp only [Rg.pq, Rg.pz, Rg.ps]; rfl)
      refine Rg.p 17 ?_ ?_ rfl rfl (fun _ _ _ h => h) (by rfl) ?_ ?_ ?_; rotate_left 2; (intro w'; go_simp; with_reducible rfl); (simp only [Rg.pq, Rg.pz, Rg.ps]; rfl)
      refine Rg.p 18 ?_ ?_ rfl rfl (fun _ _ _ h => h) (by rfl) ?_ ?_ ?_; rotate_left 2; (intro w'; go_simp; with_reducible rfl); (simp only [Rg.pq, Rg.pz, Rg.ps]; rfl)
      refine Rg.p 19 ?_ ?_ rfl rfl (fun _ _ _ h => h) (by rfl) ?_ ?_ ?_; rotate_left 2; (intro w'; go_simp; with_reducible rfl); (simp only [Rg.pq, Rg.pz, Rg.ps]; rfl)
      refine Rg.s_done ?_
      cases hv : has m.toNat s[k] with
      | true =>
        have h1 := hst.1 hv
        clear hst hx hbit
        go_wp2
        go_roundw
        case rel => exact ⟨k + 1, by omega, by go_num, h1, hb2⟩
        case measure => simp [intOf]; omega
      | false =>
        have h1 := Lib.hid (hst.2 hv)
        clear hst hx hbit
        go_wp2
        go_ret
        exact ⟨ret_int (by rw [h1.out]), hb2⟩
    · have hd : decide ((k : Int) < (s.size : Int)) = false := decide_eq_false (by omega)
      go_wp2_with fail
      refine Rg.region_steps (S := fun _ => True) [.any 0, .any 1, .any 2, .any 3, .any 4, .any 5, .any 6, .any 7, .any 8, .any 9, .any 10, .any 11, .any 12, .any 13] (by kernel_rfl) (by kernel_rfl) trivial ?_
      refine Rg.p 6 ?_ ?_ rfl rfl (fun _ _ _ h => h) (by rfl) ?_ ?_ ?_; rotate_left 2; (intro w'; go_simp; with_reducible rfl); (simp only [Rg.pq, Rg.pz, Rg.ps]; rfl)
      refine Rg.p 7 ?_ ?_ rfl rfl (fun _ _ _ h => h) (by rfl) ?_ ?_ ?_; rotate_left 2; (intro w'; go_simp; with_reducible rfl); (simp only [Rg.pq, Rg.pz, Rg.ps]; rfl)
      refine Rg.p 8 ?_ ?_ rfl rfl (fun _ _ _ h => h) (by rfl) ?_ ?_ ?_; rotate_left 2; (intro w'; go_simp; with_reducible rfl); (simp only [Rg.pq, Rg.pz, Rg.ps]; rfl)
      refine Rg.p 9 ?_ ?_ rfl rfl (fun _ _ _ h => h) (by rfl) ?_ ?_ ?_; rotate_left 2; (intro w'; go_simp; with_reducible rfl); (simp only [Rg.pq, Rg.pz, Rg.ps]; rfl)
      refine Rg.p 10 ?_ ?_ rfl rfl (fun _ _ _ h => h) (by rfl) ?_ ?_ ?_; rotate_left 2; (intro w'; go_simp; with_reducible rfl); (simp only [Rg.pq, Rg.pz, Rg.ps]; rfl)
      refine Rg.s_off (N := some 11) (a' := ?_) rfl rfl (fun _ _ _ h => h) (by rfl) ?_ ?_; rotate_left; (simp only [Act.put, List.setIfInBounds_toArray, List.set_cons_zero, List.set_cons_succ]; rfl)
      refine Rg.s_off (N := some 12) (a' := ?_) rfl rfl (fun _ _ _ h => h) (by rfl) ?_ ?_; rotate_left; (simp only [Act.put, List.setIfInBounds_toArray, List.set_cons_zero, List.set_cons_succ]; rfl)
      refine Rg.s_off (N := some 13) (a' := ?_) rfl rfl (fun _ _ _ h => h) (by rfl) ?_ ?_; rotate_left; (simp only [Act.put, List.setIfInBounds_toArray, List.set_cons_zero, List.set_cons_succ]; rfl)
      refine Rg.s_off (N := some 14) (a' := ?_) rfl rfl (fun _ _ _ h => h) (by rfl) ?_ ?_; rotate_left; (simp only [Act.put, List.setIfInBounds_toArray, List.set_cons_zero, List.set_cons_succ]; rfl)
      refine Rg.s_off (N := some 15) (a' := ?_) rfl rfl (fun _ _ _ h => h) (by rfl) ?_ ?_; rotate_left; (simp only [Act.put, List.setIfInBounds_toArray, List.set_cons_zero, List.set_cons_succ]; rfl)
      refine Rg.s_off (N := some 16) (a' := ?_) rfl rfl (fun _ _ _ h => h) (by rfl) ?_ ?_; rotate_left; (simp only [Act.put, List.setIfInBounds_toArray, List.set_cons_zero, List.set_cons_succ]; rfl)
      refine Rg.s_off (N := some 17) (a' := ?_) rfl rfl (fun _ _ _ h => h) (by rfl) ?_ ?_; rotate_left; (simp only [Act.put, List.setIfInBounds_toArray, List.set_cons_zero, List.set_cons_succ]; rfl)
      refine Rg.s_off (N := some 18) (a' := ?_) rfl rfl (fun _ _ _ h => h) (by rfl) ?_ ?_; rotate_left; (simp only [Act.put, List.setIfInBounds_toArray, List.set_cons_zero, List.set_cons_succ]; rfl)
      refine Rg.p 19 ?_ ?_ rfl rfl (fun _ _ _ h => h) (by rfl) ?_ ?_ ?_; rotate_left 2; (intro w'; go_simp; with_reducible rfl); (simp only [Rg.pq, Rg.pz, Rg.ps]; rfl)
      refine Rg.s_done ?_
      have h1 := Lib.hid (show runN m.toNat s = k by omega)
      go_wp2
      go_ret
      exact ⟨ret_int (by rw [h1.out]), hb.drew⟩
end Go.Proofs.YtlhnfgnihakcfaaDoor.Lx
