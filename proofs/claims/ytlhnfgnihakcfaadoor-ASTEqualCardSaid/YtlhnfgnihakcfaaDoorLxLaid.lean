import Derived.Test.YtlhnfgnihakcfaaDoorRows
import Derived.Test.YtlhnfgnihakcfaaDoorLxTake
import Derived.WalkKit
import Derived.ProofKit
import Derived.LaidMore
import Derived.MakeChecks
import Derived.LaidSub
import Derived.SliceStrings
set_option maxRecDepth 100000
namespace Go.Proofs.YtlhnfgnihakcfaaDoor.Lx
open Go.RowKit Go.ChangeShapes Go.WideShapes Go.ChangeAt
theorem gReserved : Tryd.prog.globalNamed "privity/lexer.reserved" = some 0 := by kernel_rfl
theorem tReserved : (Tryd.prog.globals[0]?).map (·.type) = some 48 := by kernel_rfl
theorem cString : Tryd.prog.cellsOf 9 = 1 := by kernel_rfl
def laidR : List (String × DataW Unit) := [("privity/lexer.reserved", Rows.laid_privity_lexer_reserved)]
theorem toList_inj {x y : ByteArray} (h : x.data.toList = y.data.toList) : x = y := by
  cases x; cases y; congr 1; exact Array.toList_inj.1 h
theorem World.lt_of_cell {w : World} {a : Addr} {v : Value} (h : w.cell? a = some v) : a.block < w.heap.size := by
  rcases Nat.lt_or_ge a.block w.heap.size with hl | hl
  · exact hl
  · unfold World.cell? at h; rw [Array.getElem?_eq_none hl] at h; simp at h
/-- what the condition gives the walks -/
theorem gl_of_laid {W : World} (h : laidMetH Tryd.prog laidR W) : Gl W := by
  rw [MakeChecks.laidMetH_plain _ _ _ (by kernel_rfl)] at h
  obtain ⟨ps, ⟨g0, t0, cs0, f0, p0, q0, hg0, ht0, hv0, hd0, _, _⟩, _, _⟩ := h
  obtain rfl := Option.some.inj (gReserved.symm.trans hg0)
  obtain rfl := Option.some.inj (tReserved.symm.trans ht0)
  rcases open_strings Tryd.underlying48 Tryd.underlying9 cString hd0 with ⟨_, hx⟩ | ⟨a, len, cap, ss, hcs, _, hl, hm, hz, hx, hcell, _⟩
  · simp [Rows.laid_privity_lexer_reserved] at hx
  simp only [Prod.mk.injEq] at hx
  have hx1 := hx.1
  unfold Rows.laid_privity_lexer_reserved at hx1
  simp only [DataW.slice.injEq] at hx1
  obtain ⟨hx1, hx2⟩ := hx1
  have hdrop : ss.drop len = [] := by
    cases hdd : ss.drop len with
    | nil => rfl
    | cons y ys => rw [hdd] at hx2; simp [strs] at hx2
  have htake : ss.take len = ss := List.take_of_length_le (List.drop_eq_nil_iff.1 hdrop)
  rw [htake] at hx1
  have hlen : ss.length = 8 := by have := congrArg List.length hx1; simpa [strs] using this.symm
  have hlen2 : len = 8 := by
    have h1 := List.drop_eq_nil_iff.1 hdrop
    have h2 : len ≤ ss.length := by rw [hz]; split <;> omega
    omega
  subst hlen2
  have hss : ∀ j, j < 8 → ss.getD j ByteArray.empty = reservedB.getD j ByteArray.empty := by
    intro j hj
    apply toList_inj
    have h1 : ∀ (l : List ByteArray), (strs l : List (DataW Unit)).map (fun d => match d with | .lit (.string b) => b | _ => []) = l.map (fun x => x.data.toList) := by
      intro l; simp [strs, Function.comp_def]
    have h2 : ss.map (fun x => x.data.toList) = reservedB.map (fun x => x.data.toList) := by
      rw [← h1, ← hx1]; rfl
    have h3 := congrArg (fun l => l.getD j []) h2
    simp only [List.getD_eq_getElem?_getD, List.getElem?_map] at h3 ⊢
    have hj2 : j < reservedB.length := hj
    rw [List.getElem?_eq_getElem (by omega), List.getElem?_eq_getElem hj2] at h3 ⊢
    simpa using h3
  have hc : W.cell? ⟨0, 0, none⟩ = some (.slice (some a) 8 cap) := by
    have := World.var?_cell hg0 hv0 0
    rw [Array.eq_one_of_toList hcs] at this
    simpa using this
  obtain ⟨b, off, spot⟩ := a
  have hspot : spot = none := by simpa [Addr.add] using World.cell?_spot (hcell 0 (by omega))
  subst hspot
  refine ⟨b, off, cap, World.lt_of_cell (hcell 0 (by omega)), World.lt_of_cell hc, hc, fun j hj => ?_⟩
  rw [← hss j hj]
  have := hcell j (by omega)
  rw [Go.WideShapes.add_plain] at this
  exact this
/-- the door's own heap meets the condition -/
theorem door_met (os : Os) (args : Array Value) : laidMetH Tryd.prog laidR ((World.doorLaid Tryd.prog 144 os).forCall (fun _ _ => 0) ⟨#[], args, []⟩).memory :=
  laidMetH_of_parts3 (fuel := 8) (laidMet_of_run' 8 (by kernel_rfl) (by kernel_rfl)) (by kernel_rfl) (by kernel_rfl)
end Go.Proofs.YtlhnfgnihakcfaaDoor.Lx
