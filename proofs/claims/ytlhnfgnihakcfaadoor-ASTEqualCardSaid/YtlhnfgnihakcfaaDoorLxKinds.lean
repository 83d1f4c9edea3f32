import Derived.Test.YtlhnfgnihakcfaaDoorProg
import Derived.WalkKit
import Derived.KernelRfl
import Derived.Deep.QuietTactic
import Derived.BigQuiet
import Derived.Deep.RegionWith
import Derived.Deep.LoopGhost
import Derived.Deep.DeepCutAuto
import Derived.Great.BuildSlice
import Derived.Laws.Rows
import Derived.Outline
import Derived.Below
import Derived.Laws.CopyOwn
namespace Go.Proofs.YtlhnfgnihakcfaaDoor.Lx
open Go.RowKit
theorem ret_int {k : IntKind} {a b : Int} (h : a = b) : Ending.returned (.int k a) = .returned (.int k b) := by rw [h]
theorem ret_bool {a b : Bool} (h : a = b) : Ending.returned (.bool a) = .returned (.bool b) := by rw [h]
def cls (c : Nat) : Int := if (65 ≤ c ∧ c ≤ 90) ∨ (97 ≤ c ∧ c ≤ 122) then 1 else if 48 ≤ c ∧ c ≤ 57 then 2 else if c = 95 then 4 else if c ∈ [40, 41, 91, 93, 123, 125, 59, 44, 58, 61, 43, 45, 42, 60, 38, 124, 33, 63] then 8 else if c ∈ [9, 10, 32] then 16 else 0
def kindsA : Array Value := ((List.range 256).map fun i => Value.int .u8 (cls i)).toArray
def zerosA : Array Value := ((List.range 256).map fun _ => Value.int .u8 0).toArray
theorem kinds_any (w : World) : Calls Tryd.prog 50 #[] w fun e w' => e = .returned (.agg kindsA) ∧ Below w.heap.size w w' := by
  have hz : ∀ W : World, (zeroValue 87).run Tryd.prog W = .ok (.agg zerosA) W := fun _ => by kernel_rfl
  go_enter Tryd.func50, Tryd.ntmps50
  go_wp2_with (first | (refine wpList_buildTo rfl 87 _ rfl _ rfl kindsA (by kernel_rfl) ?_) | (refine wpList_store_rowTo rfl 87 _ _ rfl rfl _ kindsA rfl rfl 87 zerosA (heap_alloc_new _ _) (by kernel_rfl) (by kernel_rfl) (by kernel_rfl) ?_))
  refine bodyPost_ret (v := .agg kindsA) (results_cell_row (p := 0) (ty := 87) rfl _ _ w.heap.size 87 kindsA (0, 0) (.array 256 5) rfl ?_ ?_ rfl (by kernel_rfl)) rfl ⟨rfl, ?_⟩
  · exact setRow_heap _ _ _ _ _ _ (heap_alloc_new _ _)
  · kernel_rfl
  · exact below_setRow ((Below.refl _ _).alloc (Nat.le_refl _) _) (Nat.le_refl _) _
theorem run_index_kinds (c : Nat) (h : c < 256) (w : World) : (Instr.index 87 (.agg kindsA) (.int .u8 (c : Int))).run Tryd.prog w = .ok (.int .u8 (cls c)) w := by
  have hk : kindsA[c]? = some (.int .u8 (cls c)) := by simp [kindsA, h]
  have hi : (Tryd.prog.info? 5).map (·.size) = some 1 := by kernel_rfl
  have hu : Tryd.prog.underlying 87 = some (.array 256 5) := by kernel_rfl
  have hu5 : Tryd.prog.underlying 5 = some (.int .u8) := by kernel_rfl
  cases hq : Tryd.prog.info? 5 with
  | none => simp [hq] at hi
  | some i =>
    have hs : i.size = 1 := by simpa [hq] using hi
    simp [Instr.index, asIntOf, run_underlying hu, run_underlying hu5, sizeOf, typeInfo, hq, hs, h, part, isAgg, hk]
attribute [irreducible] kindsA cls
end Go.Proofs.YtlhnfgnihakcfaaDoor.Lx
