import Derived.Test.YtlhnfgnihakcfaaDoorRows
import Derived.Test.YtlhnfgnihakcfaaDoorZLx
import Derived.WalkKit
import Derived.ProofKit
import Derived.LaidMore
import Derived.MakeChecks
import Derived.LaidSub
import Derived.SliceStrings
import Derived.Test.YtlhnfgnihakcfaaDoorZA3
import Derived.Lib.LaidTab
set_option maxRecDepth 100000
namespace Go.Proofs.YtlhnfgnihakcfaaDoor.Lx
open Go.RowKit Go.ChangeShapes Go.WideShapes Go.ChangeAt
theorem gReserved : Tryd.prog.globalNamed "privity/lexer.reserved" = some 0 := by kernel_rfl
theorem tReserved : (Tryd.prog.globals[0]?).map (·.type) = some 48 := by kernel_rfl
theorem cString : Tryd.prog.cellsOf 9 = 1 := by kernel_rfl
def laidR : List (String × DataW Unit) := [("privity/lexer.reserved", Rows.laid_privity_lexer_reserved)]
theorem toList_inj {x y : ByteArray} (h : x.data.toList = y.data.toList) : x = y := by
  cases x; cases y; congr 1; exact Array.toList_inj.1 h
theorem World.lt_of_cell {w : World} {a : Addr} {v : Value} (h : w.cell? a = some v) : a.block < w.heap.size := by
  rcases Nat.lt_or_ge a.block w.heap.size with hl | hl
  · exact hl
  · unfold World.cell? at h; rw [Array.getElem?_eq_none hl] at h; simp at h
theorem gl_of_laid {W : World} (h : laidMetH Tryd.prog laidR W) : Gl W := by
  rw [MakeChecks.laidMetH_plain _ _ _ (by kernel_rfl)] at h
  obtain ⟨ps, ⟨g0, t0, cs0, f0, p0, q0, hg0, ht0, hv0, hd0, _, _⟩, _, _⟩ := h
  obtain rfl := Option.some.inj (gReserved.symm.trans hg0)
  obtain rfl := Option.some.inj (tReserved.symm.trans ht0)
  rcases open_strings Tryd.underlying48 Tryd.underlying9 cString hd0 with ⟨_, hx⟩ | ⟨a, len, cap, ss, hcs, _, hl, hm, hz, hx, hcell, _⟩
  · simp [Rows.laid_privity_lexer_reserved] at hx
  simp only [Prod.mk.injEq] at hx
  have hx1 := hx.1
  unfold Rows.laid_privity_lexer_reserved at hx1
  simp only [DataW.slice.injEq] at hx1
  obtain ⟨hx1, hx2⟩ := hx1
  have hdrop : ss.drop len = [] := by
    cases hdd : ss.drop len with
    | nil => rfl
    | cons y ys => rw [hdd] at hx2; simp [strs] at hx2
  have htake : ss.take len = ss := List.take_of_length_le (List.drop_eq_nil_iff.1 hdrop)
  rw [htake] at hx1
  have hlen : ss.length = 8 := by have := congrArg List.length hx1; simpa [strs] using this.symm
  have hlen2 : len = 8 := by
    have h1 := List.drop_eq_nil_iff.1 hdrop
    have h2 : len ≤ ss.length := by rw [hz]; split <;> omega
    omega
  subst hlen2
  have hss : ∀ j, j < 8 → ss.getD j ByteArray.empty = reservedB.getD j ByteArray.empty := by
    intro j hj
    apply toList_inj
    have h1 : ∀ (l : List ByteArray), (strs l : List (DataW Unit)).map (fun d => match d with | .lit (.string b) => b | _ => []) = l.map (fun x => x.data.toList) := by
      intro l; simp [strs, Function.comp_def]
    have h2 : ss.map (fun x => x.data.toList) = reservedB.map (fun x => x.data.toList) := by
      rw [← h1, ← hx1]; rfl
    have h3 := congrArg (fun l => l.getD j []) h2
    simp only [List.getD_eq_getElem?_getD, List.getElem?_map] at h3 ⊢
    have hj2 : j < reservedB.length := hj
    rw [List.getElem?_eq_getElem (by omega), List.getElem?_eq_getElem hj2] at h3 ⊢
    simpa using h3
  have hc : W.cell? ⟨0, 0, none⟩ = some (.slice (some a) 8 cap) := by
    have := World.var?_cell hg0 hv0 0
    rw [Array.eq_one_of_toList hcs] at this
    simpa using this
  obtain ⟨b, off, spot⟩ := a
  have hspot : spot = none := by simpa [Addr.add] using World.cell?_spot (hcell 0 (by omega))
  subst hspot
  refine ⟨b, off, cap, World.lt_of_cell (hcell 0 (by omega)), World.lt_of_cell hc, hc, fun j hj => ?_⟩
  rw [← hss j hj]
  have := hcell j (by omega)
  rw [Go.WideShapes.add_plain] at this
  exact this
end Go.Proofs.YtlhnfgnihakcfaaDoor.Lx
set_option maxRecDepth 100000
namespace Go.Proofs.YtlhnfgnihakcfaaDoor.Ax
open Go.RowKit Go.ChangeShapes Go.WideShapes Go.ChangeAt
def laidA : List (String × DataW Unit) := [("math/bits.deBruijn32tab", Rows.laid_math_bits_deBruijn32tab), ("math/bits.deBruijn64tab", Rows.laid_math_bits_deBruijn64tab), ("internal/strconv.uint64pow10", Rows.laid_internal_strconv_uint64pow10), ("privity/lexer.reserved", Rows.laid_privity_lexer_reserved), ("privity/ast.signs", Rows.laid_privity_ast_signs), ("privity/ast.strengths", Rows.laid_privity_ast_strengths)]
def strData {H : Type} (ss : List ByteArray) : DataW H := .agg (ss.map fun s => .lit (.string s.data.toList))
theorem cells_of_strs {H : Type} {enc : TypeId × Value → H} {P : Program} {w : World} {base : Nat} {sp : Nat → Bool} {held : Bool} {fuel : Nat} {t e : TypeId} {n : Nat} {cs : List Value} {ss : List ByteArray} {p : List MemPlace}
    (ht : P.underlying t = some (.array n e)) (he : P.underlying e = some .string) (hce : P.cellsOf e = 1) (hct : P.cellsOf t = n)
    (h : DataW.trod enc P w base sp held fuel t cs = some (strData ss, p)) : cs = ss.map fun s => Value.string s := by
  cases fuel with
  | zero => simp [DataW.trod] at h
  | succ fuel =>
    simp only [DataW.trod, ht, hce, hct, Nat.mul_one] at h
    split at h
    · rename_i hl
      obtain ⟨xs, hm, hx⟩ := Option.map_eq_some_iff.1 h
      have hxs : xs.map (·.1) = ss.map fun s => (DataW.lit (.string s.data.toList) : DataW H) := by
        have := congrArg Prod.fst hx
        simpa [strData] using this
      have hxl : xs.length = n := by simpa using Lib.mapM_length hm
      have hzl : ss.length = n := by
        have := congrArg List.length hxs
        simp at this
        omega
      apply List.ext_getElem?
      intro i
      by_cases hi : i < n
      · obtain ⟨b, hb, hf⟩ := Lib.mapM_at hm i i (by simp [hi])
        obtain ⟨s, hc, rfl, _⟩ := DataW.trod_string he hf
        have h1 : cs[i]? = some (.string s) := by
          have := congrArg (·[0]?) hc
          simpa [List.getElem?_take, List.getElem?_drop] using this
        have h2 : (xs.map (·.1))[i]? = some (DataW.lit (.string s.data.toList) : DataW H) := by simp [hb]
        rw [hxs] at h2
        simp only [List.getElem?_map, Option.map_eq_some_iff, DataW.lit.injEq, Lit.string.injEq] at h2
        obtain ⟨s', hs', e2⟩ := h2
        have : s' = s := Lx.toList_inj e2
        subst this
        simp [h1, hs']
      · rw [List.getElem?_eq_none (by omega), List.getElem?_eq_none (by simp; omega)]
    · cases h
theorem gSigns : Tryd.prog.globalNamed "privity/ast.signs" = some 2 := by kernel_rfl
theorem tSigns : (Tryd.prog.globals[2]?).map (·.type) = some 122 := by kernel_rfl
theorem gStr : Tryd.prog.globalNamed "privity/ast.strengths" = some 1 := by kernel_rfl
theorem tStr : (Tryd.prog.globals[1]?).map (·.type) = some 121 := by kernel_rfl
theorem gPow : Tryd.prog.globalNamed "internal/strconv.uint64pow10" = some 3 := by kernel_rfl
theorem keep_one {name : String} {d : DataW Unit} {W : World} (h : laidMetH Tryd.prog laidA W) (hk : laidA.filter (fun x => x.1 == name) = [(name, d)]) (hp : d.handleName?.isNone = true) : laidMet Tryd.prog [(name, d)] W := by
  have h2 := laidMetH.filter (fun x => x.1 == name) h
  rw [hk] at h2
  rwa [MakeChecks.laidMetH_plain _ _ _ (by simp [hp])] at h2
theorem signs_of {W : World} (h : laidMet Tryd.prog [("privity/ast.signs", strData signL)] W) : ∀ j, j < 8 → W.cell? ⟨2, j, none⟩ = some (.string (signL.getD j ⟨#[]⟩)) := by
  obtain ⟨ps, ⟨g0, t0, cs0, f0, p0, q0, hg0, ht0, hv0, hd0, _, _⟩, _, _⟩ := h
  obtain rfl := Option.some.inj (gSigns.symm.trans hg0)
  obtain rfl := Option.some.inj (tSigns.symm.trans ht0)
  have hcs := cells_of_strs Tryd.underlying122 Tryd.underlying9 (by kernel_rfl) (by kernel_rfl) hd0
  intro j hj
  have := World.var?_cell hg0 hv0 j
  rw [this, ← Array.getElem?_toList, hcs]
  have hl : j < signL.length := hj
  simp [List.getD_eq_getElem?_getD, hl]
theorem gx_of_laid {W : World} (h : laidMetH Tryd.prog laidA W) : Gx W := by
  have h1 := keep_one (name := "privity/lexer.reserved") (d := Rows.laid_privity_lexer_reserved) h rfl rfl
  have h2 := keep_one (name := "internal/strconv.uint64pow10") (d := Lib.tabData .u64 Lib.pow10Tab) h rfl rfl
  have h3 := keep_one (name := "privity/ast.strengths") (d := Lib.tabData .i64 strengthL) h rfl rfl
  have h4 := keep_one (name := "privity/ast.signs") (d := strData signL) h rfl rfl
  refine ⟨Lx.gl_of_laid ?_, ?_, ?_, signs_of h4⟩
  · rw [MakeChecks.laidMetH_plain _ _ _ (by kernel_rfl)]; exact h1
  · exact Lib.tabIs_of_head gPow (by kernel_rfl) (Tryd.underlying141) Tryd.underlying37 (by kernel_rfl) (by kernel_rfl) h2
  · intro j hj
    exact (Lib.tabIs_of_head gStr tStr Tryd.underlying121 Tryd.underlying3 (by kernel_rfl) (by kernel_rfl) h3).cell gStr j hj
theorem door_metA (os : Os) (args : Array Value) : laidMetH Tryd.prog laidA ((World.doorLaid Tryd.prog 144 os).forCall (fun _ _ => 0) ⟨#[], args, []⟩).memory :=
  laidMetH_of_parts3 (fuel := 8) (laidMet_of_run' 8 (by kernel_rfl) (by kernel_rfl)) (by kernel_rfl) (by kernel_rfl)
end Go.Proofs.YtlhnfgnihakcfaaDoor.Ax
