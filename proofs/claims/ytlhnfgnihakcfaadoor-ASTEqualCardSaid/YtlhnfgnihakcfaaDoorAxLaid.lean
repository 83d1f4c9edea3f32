import Derived.Test.YtlhnfgnihakcfaaDoorLxLaid
import Derived.Test.YtlhnfgnihakcfaaDoorA3
import Derived.Lib.LaidTab
set_option maxRecDepth 100000
/- What the rows' condition (six package variables read as their initialisers lay them) gives the walks of chapter 27. -/
namespace Go.Proofs.YtlhnfgnihakcfaaDoor.Ax
open Go.RowKit Go.ChangeShapes Go.WideShapes Go.ChangeAt
def laidA : List (String × DataW Unit) := [("math/bits.deBruijn32tab", Rows.laid_math_bits_deBruijn32tab), ("math/bits.deBruijn64tab", Rows.laid_math_bits_deBruijn64tab), ("internal/strconv.uint64pow10", Rows.laid_internal_strconv_uint64pow10), ("privity/lexer.reserved", Rows.laid_privity_lexer_reserved), ("privity/ast.signs", Rows.laid_privity_ast_signs), ("privity/ast.strengths", Rows.laid_privity_ast_strengths)]
def strData {H : Type} (ss : List ByteArray) : DataW H := .agg (ss.map fun s => .lit (.string s.data.toList))
/-- an array of strings that reads as these strings holds them, cell for cell -/
theorem cells_of_strs {H : Type} {enc : TypeId × Value → H} {P : Program} {w : World} {base : Nat} {sp : Nat → Bool} {held : Bool} {fuel : Nat} {t e : TypeId} {n : Nat} {cs : List Value} {ss : List ByteArray} {p : List MemPlace}
    (ht : P.underlying t = some (.array n e)) (he : P.underlying e = some .string) (hce : P.cellsOf e = 1) (hct : P.cellsOf t = n)
    (h : DataW.trod enc P w base sp held fuel t cs = some (strData ss, p)) : cs = ss.map fun s => Value.string s := by
  cases fuel with
  | zero => simp [DataW.trod] at h
  | succ fuel =>
    simp only [DataW.trod, ht, hce, hct, Nat.mul_one] at h
    split at h
    · rename_i hl
      obtain ⟨xs, hm, hx⟩ := Option.map_eq_some_iff.1 h
      have hxs : xs.map (·.1) = ss.map fun s => (DataW.lit (.string s.data.toList) : DataW H) := by
        have := congrArg Prod.fst hx
        simpa [strData] using this
      have hxl : xs.length = n := by simpa using Lib.mapM_length hm
      have hzl : ss.length = n := by
        have := congrArg List.length hxs
        simp at this
        omega
      apply List.ext_getElem?
      intro i
      by_cases hi : i < n
      · obtain ⟨b, hb, hf⟩ := Lib.mapM_at hm i i (by simp [hi])
        obtain ⟨s, hc, rfl, _⟩ := DataW.trod_string he hf
        have h1 : cs[i]? = some (.string s) := by
          have := congrArg (·[0]?) hc
          simpa [List.getElem?_take, List.getElem?_drop] using this
        have h2 : (xs.map (·.1))[i]? = some (DataW.lit (.string s.data.toList) : DataW H) := by simp [hb]
        rw [hxs] at h2
        simp only [List.getElem?_map, Option.map_eq_some_iff, DataW.lit.injEq, Lit.string.injEq] at h2
        obtain ⟨s', hs', e2⟩ := h2
        have : s' = s := Lx.toList_inj e2
        subst this
        simp [h1, hs']
      · rw [List.getElem?_eq_none (by omega), List.getElem?_eq_none (by simp; omega)]
    · cases h
theorem gSigns : Tryd.prog.globalNamed "privity/ast.signs" = some 2 := by kernel_rfl
theorem tSigns : (Tryd.prog.globals[2]?).map (·.type) = some 122 := by kernel_rfl
theorem gStr : Tryd.prog.globalNamed "privity/ast.strengths" = some 1 := by kernel_rfl
theorem tStr : (Tryd.prog.globals[1]?).map (·.type) = some 121 := by kernel_rfl
theorem gPow : Tryd.prog.globalNamed "internal/strconv.uint64pow10" = some 3 := by kernel_rfl
theorem keep_one {name : String} {d : DataW Unit} {W : World} (h : laidMetH Tryd.prog laidA W) (hk : laidA.filter (fun x => x.1 == name) = [(name, d)]) (hp : d.handleName?.isNone = true) : laidMet Tryd.prog [(name, d)] W := by
  have h2 := laidMetH.filter (fun x => x.1 == name) h
  rw [hk] at h2
  rwa [MakeChecks.laidMetH_plain _ _ _ (by simp [hp])] at h2
theorem signs_of {W : World} (h : laidMet Tryd.prog [("privity/ast.signs", strData signL)] W) : ∀ j, j < 8 → W.cell? ⟨2, j, none⟩ = some (.string (signL.getD j ⟨#[]⟩)) := by
  obtain ⟨ps, ⟨g0, t0, cs0, f0, p0, q0, hg0, ht0, hv0, hd0, _, _⟩, _, _⟩ := h
  obtain rfl := Option.some.inj (gSigns.symm.trans hg0)
  obtain rfl := Option.some.inj (tSigns.symm.trans ht0)
  have hcs := cells_of_strs Tryd.underlying122 Tryd.underlying9 (by kernel_rfl) (by kernel_rfl) hd0
  intro j hj
  have := World.var?_cell hg0 hv0 j
  rw [this, ← Array.getElem?_toList, hcs]
  have hl : j < signL.length := hj
  simp [List.getD_eq_getElem?_getD, hl]
/-- the six variables give the walks' fact -/
theorem gx_of_laid {W : World} (h : laidMetH Tryd.prog laidA W) : Gx W := by
  have h1 := keep_one (name := "privity/lexer.reserved") (d := Rows.laid_privity_lexer_reserved) h rfl rfl
  have h2 := keep_one (name := "internal/strconv.uint64pow10") (d := Lib.tabData .u64 Lib.pow10Tab) h rfl rfl
  have h3 := keep_one (name := "privity/ast.strengths") (d := Lib.tabData .i64 strengthL) h rfl rfl
  have h4 := keep_one (name := "privity/ast.signs") (d := strData signL) h rfl rfl
  refine ⟨Lx.gl_of_laid ?_, ?_, ?_, signs_of h4⟩
  · rw [MakeChecks.laidMetH_plain _ _ _ (by kernel_rfl)]; exact h1
  · exact Lib.tabIs_of_head gPow (by kernel_rfl) (Tryd.underlying141) Tryd.underlying37 (by kernel_rfl) (by kernel_rfl) h2
  · intro j hj
    exact (Lib.tabIs_of_head gStr tStr Tryd.underlying121 Tryd.underlying3 (by kernel_rfl) (by kernel_rfl) h3).cell gStr j hj
theorem door_metA (os : Os) (args : Array Value) : laidMetH Tryd.prog laidA ((World.doorLaid Tryd.prog 144 os).forCall (fun _ _ => 0) ⟨#[], args, []⟩).memory :=
  laidMetH_of_parts3 (fuel := 8) (laidMet_of_run' 8 (by kernel_rfl) (by kernel_rfl)) (by kernel_rfl) (by kernel_rfl)
end Go.Proofs.YtlhnfgnihakcfaaDoor.Ax
