import Derived.Test.YtlhnfgnihakcfaaDoorLxPass
import Derived.Lib.ConvBytes
set_option linter.unusedSimpArgs false
set_option linter.unusedVariables false
namespace Go.Proofs.YtlhnfgnihakcfaaDoor.Lx
open Go.RowKit
theorem below_bytes (w : World) (e : TypeId) (s : ByteArray) : Below w.heap.size w (Lib.bytesWorld w e s) := by
  refine ⟨?_, ?_, ?_, by rw [Lib.bytesWorld_size]; omega, fun k hk => Lib.bytesWorld_at_old w e s k hk⟩ <;> simp [Lib.bytesWorld, World.freeze, World.alloc, World.drew, -World.alloc_eq, -World.drew_eq]
theorem num_step {l : List UInt8} {v k c : Nat} (hk : k < l.length) (hc : (l.getD k 0).toNat = c) : Px.numVal v (l.drop k) = if v * 10 + (c - 48) < 1152921504606846976 then Px.numVal (v * 10 + (c - 48)) (l.drop (k + 1)) else none := by
  rw [List.drop_eq_getElem_cons hk]
  simp only [Px.numVal]
  rw [List.getD_eq_getElem?_getD, List.getElem?_eq_getElem hk] at hc
  simp only [Option.getD_some] at hc
  rw [hc]
def numV (o : Option Nat) : Value := match o with | some v => .tuple #[.int .u64 v, .bool true] | none => .tuple #[.int .u64 0, .bool false]
theorem number_any (s : ByteArray) (w : World) (hs : s.size ≤ 140737488351232) (hdig : ∀ k, k < s.size → 48 ≤ (s.data.toList.getD k 0).toNat ∧ (s.data.toList.getD k 0).toNat ≤ 57) :
    Calls Tryd.prog 74 #[.string s] w fun e w' => e = .returned (numV (Px.numVal 0 s.data.toList)) ∧ Below w.heap.size w w' := by
  have hcv := Lib.run_convert_string_bytes (P := Tryd.prog) w 9 69 5 s Tryd.underlying9 Tryd.underlying69 Tryd.underlying5
  have hb0 := below_bytes w 5 s
  have hcell := Lib.hid (Lib.bytesWorld_cell w 5 s)
  have HD := Lib.hid hdig
  clear hdig
  generalize grownCap w s.size 0 5 = cp at hcv
  generalize Lib.bytesWorld w 5 s = w1 at hcv hb0 hcell
  go_enter Tryd.func74, Tryd.ntmps74
  go_wp2
  clear hcv
  go_loopw [4, 10] (fun n i wr => ∃ v k : Nat, k ≤ s.size ∧ i = .int .i64 k ∧ n = .int .u64 v ∧ v < 1152921504606846976 ∧ Hid (Px.numVal 0 s.data.toList = Px.numVal v (s.data.toList.drop k)) ∧ wr = w1) (fun _ i _ => s.size - (intOf i).toNat)
  case atStart => exact ⟨0, 0, by omega, rfl, rfl, by omega, Lib.hid (by simp), rfl⟩
  case round =>
    obtain ⟨v, k, hk, rfl, rfl, hv, hle, rfl⟩ := hrel
    by_cases hlt : k < s.size
    · obtain ⟨c, hc⟩ : ∃ c : Nat, (s.data.toList.getD k 0).toNat = c := ⟨_, rfl⟩
      have hcl := hcell.out k hlt
      have hdg := HD.out k hlt
      rw [hc] at hcl hdg
      obtain ⟨hd1, hd2⟩ := hdg
      have hst := Lib.hid (num_step (v := v) (by simpa using hlt) hc)
      clear hc
      by_cases hsm : v * 10 + (c - 48) < 1152921504606846976
      · have hst2 := Lib.hid (hle.out.trans (hst.out.trans (if_pos hsm)))
        have hsm2 : (v : Int) * 10 + ((c : Int) - 48) < 1152921504606846976 := by omega
        clear hst hsm
        go_wp2
        go_roundw
        case rel => exact ⟨v * 10 + (c - 48), k + 1, by omega, by go_num, by go_num, by omega, hst2, trivial⟩
        case measure => simp [intOf]; omega
      · have hst2 := Lib.hid (hle.out.trans (hst.out.trans (if_neg hsm)))
        have hsm2 : 1152921504606846976 ≤ (v : Int) * 10 + ((c : Int) - 48) := by omega
        clear hst hsm
        go_wp2
        go_ret2
        exact ⟨by rw [hst2.out]; rfl, hb0⟩
    · have hst2 := Lib.hid (show Px.numVal 0 s.data.toList = some v by
        rw [hle.out, List.drop_of_length_le (by simp; omega)]; rfl)
      go_wp2
      go_ret2
      exact ⟨by rw [hst2.out]; rfl, hb0⟩
end Go.Proofs.YtlhnfgnihakcfaaDoor.Lx
