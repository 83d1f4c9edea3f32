import Derived.Test.YtlhnfgnihakcfaaDoorZA3
import Derived.Shelf.Strings.BuilderK
import Derived.Lib.OthersKept
import Derived.Lib.OwnKind
set_option linter.unusedSimpArgs false
set_option linter.unusedVariables false
namespace Go.Proofs.YtlhnfgnihakcfaaDoor.Ax
open Go.RowKit Hp Kn Lx
open Go.Proofs.YtlhnfgnihakcfaaDoorW.PrintWords Go.Proofs.YtlhnfgnihakcfaaDoorW.PrintLast Go.Proofs.YtlhnfgnihakcfaaDoorW.PrintMore
def PageAt (B b : Nat) (p : Value) (l : List UInt8) (n : Int) (w : World) : Prop :=
  B ≤ b ∧ ∃ v, w.heap[b]? = some (.cells #[p, v, .int .i64 n] 73 (0, 0)) ∧ w.ownsRow B 5 1 v l.length (Lib.byteCells l) ∧ v.ownBlock ≠ some b
def IsPage (B b : Nat) (l : List UInt8) (n : Int) (w : World) : Prop := PageAt B b (.pointer none) l n w ∨ PageAt B b (.pointer (some ⟨b, 0, none⟩)) l n w
section
variable {B b : Nat} {p : Value} {l : List UInt8} {n : Int} {w : World}
theorem PageAt.lt (h : PageAt B b p l n w) : b < w.heap.size := by
  obtain ⟨_, v, hb, _⟩ := h
  rcases Nat.lt_or_ge b w.heap.size with h' | h'
  · exact h'
  · simp [Array.getElem?_eq_none h'] at hb
theorem PageAt.cell0 (h : PageAt B b p l n w) : w.cell? ⟨b, 0, none⟩ = some p := by obtain ⟨_, v, hb, _⟩ := h; simp [World.cell?, hb]
theorem PageAt.cell2 (h : PageAt B b p l n w) : w.cell? ⟨b, 2, none⟩ = some (.int .i64 n) := by obtain ⟨_, v, hb, _⟩ := h; simp [World.cell?, hb]
theorem PageAt.shape (h : PageAt B b p l n w) : w.shape? b = some (73, 3) := by obtain ⟨_, v, hb, _⟩ := h; simp [World.shape?, hb]
theorem PageAt.frozen (h : PageAt B b p l n w) (j : Nat) : w.frozen? ⟨b, j, none⟩ = false := by obtain ⟨_, v, hb, _⟩ := h; simp [World.frozen?, hb]
theorem PageAt.used (h : PageAt B b p l n w) (q : Value) : PageAt B b q l n (w.setCell ⟨b, 0, none⟩ q) := by
  obtain ⟨hB, v, hb, hown, hne⟩ := h
  refine ⟨hB, v, ?_, ?_, hne⟩
  · simp [World.setCell, Array.getElem?_modify, hb]
  · exact hown.kept (row := some b) ⟨rfl, rfl, rfl, by simp [World.setCell], fun k _ hk => Below.heap_setCell _ _ _ _ (fun e => hk (by simp [e]))⟩ (Or.inr hne)
theorem PageAt.level (h : PageAt B b p l n w) (m : Int) : PageAt B b p l m (w.setCell ⟨b, 2, none⟩ (.int .i64 m)) := by
  obtain ⟨hB, v, hb, hown, hne⟩ := h
  refine ⟨hB, v, ?_, ?_, hne⟩
  · simp [World.setCell, Array.getElem?_modify, hb]
  · exact hown.kept (row := some b) ⟨rfl, rfl, rfl, by simp [World.setCell], fun k _ hk => Below.heap_setCell _ _ _ _ (fun e => hk (by simp [e]))⟩ (Or.inr hne)
theorem PageAt.put {v v' : Value} {l' : List UInt8} (hB : B ≤ b) (hb : w.heap[b]? = some (.cells #[p, v, .int .i64 n] 73 (0, 0))) (hown : w.ownsRow B 5 1 v' l'.length (Lib.byteCells l')) :
    PageAt B b p l' n (w.setCell ⟨b, 1, none⟩ v') := by
  have hne := Lib.ownBlock_ne hown hb (by decide)
  refine ⟨hB, v', ?_, ?_, hne⟩
  · simp [World.setCell, Array.getElem?_modify, hb]
  · exact hown.kept (row := some b) ⟨rfl, rfl, rfl, by simp [World.setCell], fun k _ hk => Below.heap_setCell _ _ _ _ (fun e => hk (by simp [e]))⟩ (Or.inr hne)
theorem own_below {e : TypeId} {v : Value} {m : Nat} {xs : List Value} {w' : World} (h : w.ownsRow B e 1 v m xs) (hb : Below w.heap.size w w') : w'.ownsRow B e 1 v m xs := by
  refine ⟨h.1, ?_⟩
  rcases h.2 with hn | ⟨g, cap, cur, rfl, hBg, hgg, rest⟩
  · exact .inl hn
  · have hlt : g < w.heap.size := by
      rcases Nat.lt_or_ge g w.heap.size with h' | h'
      · exact h'
      · simp [Array.getElem?_eq_none h'] at hgg
    exact .inr ⟨g, cap, cur, rfl, hBg, (hb.block g hlt).trans hgg, rest⟩
theorem PageAt.below {w' : World} (h : PageAt B b p l n w) (hb : Below w.heap.size w w') : PageAt B b p l n w' := by
  have hlt := h.lt
  obtain ⟨hB, v, hbk, hown, hne⟩ := h
  exact ⟨hB, v, (hb.block b hlt).trans hbk, own_below hown hb, hne⟩
theorem IsPage.below {w' : World} (h : IsPage B b l n w) (hb : Below w.heap.size w w') : IsPage B b l n w' := h.elim (fun h => .inl (h.below hb)) (fun h => .inr (h.below hb))
theorem IsPage.cell2 (h : IsPage B b l n w) : w.cell? ⟨b, 2, none⟩ = some (.int .i64 n) := h.elim PageAt.cell2 PageAt.cell2
theorem IsPage.frozen (h : IsPage B b l n w) (j : Nat) : w.frozen? ⟨b, j, none⟩ = false := h.elim (fun h => h.frozen j) (fun h => h.frozen j)
theorem IsPage.level (h : IsPage B b l n w) (m : Int) : IsPage B b l m (w.setCell ⟨b, 2, none⟩ (.int .i64 m)) := h.elim (fun h => .inl (h.level m)) (fun h => .inr (h.level m))
theorem IsPage.le (h : IsPage B b l n w) : B ≤ b := h.elim (·.1) (·.1)
theorem IsPage.lt (h : IsPage B b l n w) : b < w.heap.size := h.elim PageAt.lt PageAt.lt
end
theorem infoBuilder : (Tryd.prog.info? 71).map (·.size) = some 2 := by kernel_rfl
theorem liesPage : liesAt Tryd.prog Tryd.prog.depth 73 (3 / Tryd.prog.cellsOf 73) 0 71 1 = true := by kernel_rfl
theorem infoByte : (Tryd.prog.info? 5).map (fun i => (i.zero, i.size, i.bytes)) = some (some (.int .u8 0), 1, 1) := by kernel_rfl
set_option maxHeartbeats 1000000 in
set_option maxRecDepth 100000 in
theorem pg_check_used (b : Nat) (w : World) (h0 : w.cell? ⟨b, 0, none⟩ = some (.pointer (some ⟨b, 0, none⟩))) :
    Calls Tryd.prog 84 #[.pointer (some ⟨b, 0, none⟩)] w fun e w' => e = .returned (.tuple #[]) ∧ w' = w := by
  obtain ⟨j, hj, _⟩ := Option.map_eq_some_iff.1 infoBuilder
  go_enter Tryd.func84, Tryd.ntmps84
  go_wp2
  rw [Lib.run_neq_ptr_same w _ Tryd.underlying68 hj]
  go_wp2
  go_end0
  exact ⟨rfl, rfl⟩
set_option maxHeartbeats 1000000 in
set_option maxRecDepth 100000 in
theorem pg_check_fresh (b : Nat) (w : World) (h0 : w.cell? ⟨b, 0, none⟩ = some (.pointer none)) (hsh : w.shape? b = some (73, 3)) (hfz : w.frozen? ⟨b, 0, none⟩ = false) :
    Calls Tryd.prog 84 #[.pointer (some ⟨b, 0, none⟩)] w fun e w' => e = .returned (.tuple #[]) ∧ w' = w.setCell ⟨b, 0, none⟩ (.pointer (some ⟨b, 0, none⟩)) := by
  obtain ⟨j, hj, hjs⟩ := Option.map_eq_some_iff.1 infoBuilder
  go_enter Tryd.func84, Tryd.ntmps84
  go_wp2
  rw [Lib.run_to_unsafe w ⟨b, 0, none⟩ Tryd.underlying68 Tryd.underlying134 hj (by rw [hjs]; decide) hsh (Nat.zero_lt_succ 2)]
  simp only [Result.andThen]
  rw [Oper.upon_value]
  go_wp2
  rw [run_callFunc_extern Tryd.func104 (by kernel_rfl) (by kernel_rfl) (by kernel_rfl) (e := Extern.AbiNoEscape.same) (by kernel_rfl)]
  rw [Lib.run_noEscape]
  simp only [Result.andThen]
  rw [Oper.upon_value]
  go_wp2
  rw [Lib.run_from_unsafe w ⟨b, 0, none⟩ Tryd.underlying134 Tryd.underlying68 hj hsh liesPage]
  simp only [Result.andThen]
  rw [Oper.upon_value]
  go_wp2
  go_end0
  exact ⟨rfl, rfl⟩
theorem pg_check {B b : Nat} {l : List UInt8} {n : Int} {w : World} (h : IsPage B b l n w) :
    Calls Tryd.prog 84 #[.pointer (some ⟨b, 0, none⟩)] w fun e w' => e = .returned (.tuple #[]) ∧ (PageAt B b (.pointer (some ⟨b, 0, none⟩)) l n w' ∧ Below B w w' ∧ Lib.OthersKept 5 (some b) w w') := by
  rcases h with h | h
  · refine (pg_check_fresh b w h.cell0 h.shape (h.frozen 0)).mono ?_
    rintro e w' ⟨rfl, rfl⟩
    exact ⟨rfl, h.used _, (Below.refl B w).setCell (p := ⟨b, 0, none⟩) h.1 _, (Lib.OthersKept.refl _ _ w).setCell ⟨b, 0, none⟩ rfl _⟩
  · refine (pg_check_used b w h.cell0).mono ?_
    rintro e w' ⟨rfl, rfl⟩
    exact ⟨rfl, h, Below.refl B _, Lib.OthersKept.refl _ _ _⟩
set_option maxHeartbeats 2000000 in
set_option maxRecDepth 100000 in
theorem pg_write (B b : Nat) (l : List UInt8) (n : Int) (s : ByteArray) (w : World) (h : IsPage B b l n w) (hlen : l.length + s.size ≤ 140737488355328) (hBw : B ≤ w.heap.size) :
    Calls Tryd.prog 62 #[.pointer (some ⟨b, 0, none⟩), .string s] w fun e w' => e = .returned (.tuple #[.int .i64 s.size, .nilIface]) ∧ IsPage B b (l ++ s.data.toList) n w' ∧ Below B w w' ∧ Lib.OthersKept 5 (some b) w w' := by
  obtain ⟨i0, hi, hz0, hz1, hz2⟩ := info_parts infoByte
  have HH := Lib.hid h
  clear h
  go_enter Tryd.func62, Tryd.ntmps62
  go_wp2_with fail
  refine (pg_check HH.out).mono ?_
  rintro e w1 ⟨rfl, h1, hb1, hk1⟩
  obtain ⟨hB, v, hbk, hown, hne⟩ := h1
  have c0 : w1.cell? ⟨b, 0, none⟩ = some (.pointer (some ⟨b, 0, none⟩)) := by rw [Lib.cell_of_heap hbk]; rfl
  have c1 : w1.cell? ⟨b, 1, none⟩ = some v := by rw [Lib.cell_of_heap hbk]; rfl
  have hsz : (Lib.byteCells l).length = l.length := Lib.byteCells_length l
  go_wp2_with (at_builtin; refine Lib.wpList_append_own_string _ rfl _ _ 69 9 rfl B 5 i0 Tryd.underlying69 Tryd.underlying9 hi hz0 hz1 hz2 _ _ _ rfl hown s rfl ?c3 ?c4 ?c5 ?_)
  case c3 => unfold maxLen; omega
  case c4 => omega
  case c5 => have := hb1.size; omega
  intro v' w2 hown' hgrow _
  have hlt : b < w1.heap.size := by
    rcases Nat.lt_or_ge b w1.heap.size with h' | h'
    · exact h'
    · simp [Array.getElem?_eq_none h'] at hbk
  have hb2 : w2.heap[b]? = some (.cells #[.pointer (some ⟨b, 0, none⟩), v, .int .i64 n] 73 (0, 0)) := by
    rw [hgrow.block b hlt (fun e => hne e.symm)]
    exact hbk
  have d0 : w2.cell? ⟨b, 0, none⟩ = some (.pointer (some ⟨b, 0, none⟩)) := by rw [Lib.cell_of_heap hb2]; rfl
  have d1 : w2.cell? ⟨b, 1, none⟩ = some v := by rw [Lib.cell_of_heap hb2]; rfl
  have f1 : w2.frozen? ⟨b, 1, none⟩ = false := Lib.frozen_of_heap hb2 1
  obtain ⟨ao, n', cap, rfl⟩ : ∃ ao n' cap, v' = .slice ao n' cap := by
    rcases hown'.2 with ⟨hv, _⟩ | ⟨g, cap, cur, hv, _⟩
    · exact ⟨_, _, _, hv⟩
    · exact ⟨_, _, _, hv⟩
  have hown2 : w2.ownsRow B 5 1 (.slice ao n' cap) (l ++ s.data.toList).length (Lib.byteCells (l ++ s.data.toList)) := by
    have e1 : (l ++ s.data.toList).length = l.length + s.size := by rw [List.length_append, Array.length_toList]; rfl
    have e2 : Lib.byteCells (l ++ s.data.toList) = Lib.byteCells l ++ Lib.strCells s := by simp [Lib.byteCells, Lib.strCells]
    rw [e1, e2]
    exact hown'
  have HO := Lib.hid hown2
  clear hown2
  go_wp2
  go_ret2
  refine ⟨rfl, .inr ?_, ?_, (hk1.grown hgrow (Lib.ownsRow_kind hown)).setCell ⟨b, 1, none⟩ rfl _⟩
  · exact PageAt.put hB hb2 HO.out
  · exact (hb1.grown hgrow (by have := hb1.size; omega) (fun k hk => (hown.lt k hk).1)).setCell (p := ⟨b, 1, none⟩) hB _
set_option maxHeartbeats 2000000 in
set_option maxRecDepth 100000 in
theorem pg_byte (B b : Nat) (l : List UInt8) (n : Int) (c : Nat) (hc : c < 256) (w : World) (h : IsPage B b l n w) (hlen : l.length + 1 ≤ 140737488355328) (hBw : B ≤ w.heap.size) :
    Calls Tryd.prog 64 #[.pointer (some ⟨b, 0, none⟩), .int .u8 c] w fun e w' => e = .returned .nilIface ∧ IsPage B b (l ++ [UInt8.ofNat c]) n w' ∧ Below B w w' ∧ Lib.OthersKept 5 (some b) w w' := by
  obtain ⟨i0, hi, hz0, hz1, hz2⟩ := info_parts infoByte
  have HH := Lib.hid h
  clear h
  go_enter Tryd.func64, Tryd.ntmps64
  go_wp2_with fail
  refine (pg_check HH.out).mono ?_
  rintro e w1 ⟨rfl, h1, hb1, hk1⟩
  obtain ⟨hB, v, hbk, hown, hne⟩ := h1
  have c0 : w1.cell? ⟨b, 0, none⟩ = some (.pointer (some ⟨b, 0, none⟩)) := by rw [Lib.cell_of_heap hbk]; rfl
  have c1 : w1.cell? ⟨b, 1, none⟩ = some v := by rw [Lib.cell_of_heap hbk]; rfl
  have hsz : (Lib.byteCells l).length = l.length := Lib.byteCells_length l
  go_wp2_with (at_builtin; refine wpList_append_own _ rfl _ _ 69 rfl B 5 i0 (.int .u8 0) 1 1 Tryd.underlying69 hi hz0 hz1 hz2 rfl (by decide) _ _ _ rfl (hown.alloc _) ⟨w1.heap.size, 0, none⟩ 1 1 [.int .u8 c] rfl rfl ?c1 ?c2 ?c3 ?c4 ?c5 ?_)
  case c1 =>
    intro j u hj
    match j, hj with
    | 0, hj => simp at hj; subst hj; simp [Addr.add]
  case c2 => intro u hu; simp at hu; subst hu; rfl
  case c3 => unfold maxLen; omega
  case c4 => omega
  case c5 => have := hb1.size; simp; omega
  intro v' w2 hown' hgrow _
  have hlt : b < w1.heap.size := by
    rcases Nat.lt_or_ge b w1.heap.size with h' | h'
    · exact h'
    · simp [Array.getElem?_eq_none h'] at hbk
  have hb2 : w2.heap[b]? = some (.cells #[.pointer (some ⟨b, 0, none⟩), v, .int .i64 n] 73 (0, 0)) := by
    rw [hgrow.block b (by simp; omega) (fun e => hne e.symm), Lib.alloc_old w1 _ b hlt]
    exact hbk
  have d0 : w2.cell? ⟨b, 0, none⟩ = some (.pointer (some ⟨b, 0, none⟩)) := by rw [Lib.cell_of_heap hb2]; rfl
  have d1 : w2.cell? ⟨b, 1, none⟩ = some v := by rw [Lib.cell_of_heap hb2]; rfl
  have f1 : w2.frozen? ⟨b, 1, none⟩ = false := Lib.frozen_of_heap hb2 1
  obtain ⟨g, cap, rfl⟩ : ∃ g cap, v' = .slice (some ⟨g, 0, none⟩) (l.length + 1) cap := by
    rcases hown'.2 with ⟨_, h0⟩ | ⟨g, cap, cur, hv, _⟩
    · omega
    · exact ⟨g, cap, hv⟩
  have hown2 : w2.ownsRow B 5 1 (.slice (some ⟨g, 0, none⟩) (l.length + 1) cap) (l ++ [UInt8.ofNat c]).length (Lib.byteCells (l ++ [UInt8.ofNat c])) := by
    have e2 : Lib.byteCells (l ++ [UInt8.ofNat c]) = Lib.byteCells l ++ [.int .u8 c] := by simp [Lib.byteCells]; omega
    rw [e2, List.length_append]
    exact hown'
  have HO := Lib.hid hown2
  clear hown2
  go_wp2
  go_ret
  refine ⟨rfl, .inr ?_, ?_, ((hk1.alloc _).grown hgrow (Lib.ownsRow_kind (hown.alloc _))).setCell ⟨b, 1, none⟩ rfl _⟩
  · exact PageAt.put hB hb2 HO.out
  · exact ((hb1.alloc (by have := hb1.size; omega) _).grown hgrow (by have := hb1.size; simp; omega) (fun k hk => (hown.lt k hk).1)).setCell (p := ⟨b, 1, none⟩) hB _
theorem us_none (W : World) (q : Option Addr) : (Builtin.unsafeString_ #[104, 3] 9 #[.pointer q, .int .i64 0]).run Tryd.prog W = .ok (.string .empty) W :=
  Lib.run_unsafeString_none W _ _ _ q
set_option maxHeartbeats 2000000 in
set_option maxRecDepth 100000 in
theorem pg_string_some (B b : Nat) (l : List UInt8) (n : Int) (w : World) (h : IsPage B b l n w) (h0 : l ≠ []) :
    Calls Tryd.prog 41 #[.pointer (some ⟨b, 0, none⟩)] w fun e w' => e = .returned (.string ⟨l.toArray⟩) ∧ Below B w w' := by
  obtain ⟨p, hB, v, hbk, hown, hne⟩ : ∃ p, PageAt B b p l n w := by
    rcases h with h | h
    · exact ⟨_, h⟩
    · exact ⟨_, h⟩
  have hl0 : l.length ≠ 0 := by simpa using h0
  obtain ⟨g, cap, cur, rfl, hbg, hg, hnc, hcm, hcs, htake⟩ : ∃ g cap cur, v = .slice (some ⟨g, 0, none⟩) l.length cap ∧ B ≤ g ∧ w.heap[g]? = some (.cells cur 5 (0, 0)) ∧ l.length ≤ cap ∧ cap ≤ maxLen ∧ cur.size = cap * 1 ∧ cur.toList.take (l.length * 1) = Lib.byteCells l := by
    rcases hown.2 with ⟨_, hz⟩ | ⟨g, cap, cur, hv, r⟩
    · exact absurd hz hl0
    · exact ⟨g, cap, cur, hv, r⟩
  have c1 : w.drew.cell? ⟨b, 1, none⟩ = some (.slice (some ⟨g, 0, none⟩) l.length cap) := by
    have : w.drew.heap[b]? = some (.cells #[p, .slice (some ⟨g, 0, none⟩) l.length cap, .int .i64 n] 73 (0, 0)) := hbk
    rw [Lib.cell_of_heap this]; rfl
  have hSD : (Builtin.unsafeSliceData_ #[69] 104 #[.slice (some ⟨g, 0, none⟩) l.length cap]).run Tryd.prog w.drew = .ok (.pointer (some ⟨g, 0, none⟩)) w.drew :=
    Lib.run_unsafeSliceData_row _ _ _ _ _ _ (by omega)
  have hUS : (Builtin.unsafeString_ #[104, 3] 9 #[.pointer (some ⟨g, 0, none⟩), .int .i64 l.length]).run Tryd.prog w.drew = .ok (.string ⟨l.toArray⟩) (w.drew.freeze ⟨g, 0, none⟩ l.length) := by
    refine Lib.run_unsafeString_row w.drew 104 3 9 5 Tryd.underlying104 (by kernel_rfl) g cur.size (by have hg' : w.drew.heap[g]? = some (.cells cur 5 (0, 0)) := hg; simp [World.shape?, hg']) l h0 (by omega) (by unfold maxLen at hcm; omega) ?_
    intro j x hx
    exact hown.cells (g := g) rfl j (.int .u8 x.toNat) (by simp [Lib.byteCells, hx])
  have HB := Lib.hid (Lib.below_freeze (Below.drew (Below.refl B w)) (p := ⟨g, 0, none⟩) hbg l.length)
  clear h hbk hown hne hl0 hg hnc hcm hcs htake
  go_enter Tryd.func41, Tryd.ntmps41
  go_wp2
  go_region
  all_goals (go_wp2; go_ret; exact ⟨rfl, HB.out⟩)
set_option maxHeartbeats 2000000 in
set_option maxRecDepth 100000 in
theorem pg_string_new (B b : Nat) (p : Value) (n : Int) (w : World) (hbk : w.heap[b]? = some (.cells #[p, .slice none 0 0, .int .i64 n] 73 (0, 0))) :
    Calls Tryd.prog 41 #[.pointer (some ⟨b, 0, none⟩)] w fun e w' => e = .returned (.string ⟨#[]⟩) ∧ Below B w w' := by
  have hUS := us_none
  have c1 : w.drew.cell? ⟨b, 1, none⟩ = some (.slice none 0 0) := by
    have : w.drew.heap[b]? = some (.cells #[p, .slice none 0 0, .int .i64 n] 73 (0, 0)) := hbk
    rw [Lib.cell_of_heap this]; rfl
  have hSD : (Builtin.unsafeSliceData_ #[69] 104 #[.slice none 0 0]).run Tryd.prog w.drew = .ok (.pointer none) w.drew := rfl
  clear hbk
  go_enter Tryd.func41, Tryd.ntmps41
  go_wp2
  go_region
  all_goals (go_wp2; go_ret; exact ⟨rfl, Below.drew (Below.refl B w)⟩)
set_option maxHeartbeats 2000000 in
set_option maxRecDepth 100000 in
theorem pg_string_noroom (B b g : Nat) (p : Value) (n : Int) (cur : Array Value) (w : World) (hBw : B ≤ w.heap.size) (hbk : w.heap[b]? = some (.cells #[p, .slice (some ⟨g, 0, none⟩) 0 0, .int .i64 n] 73 (0, 0))) (hg : w.heap[g]? = some (.cells cur 5 (0, 0))) :
    Calls Tryd.prog 41 #[.pointer (some ⟨b, 0, none⟩)] w fun e w' => e = .returned (.string ⟨#[]⟩) ∧ Below B w w' := by
  have hUS := us_none
  have hlt : b < w.heap.size := by
    rcases Nat.lt_or_ge b w.heap.size with h' | h'
    · exact h'
    · simp [Array.getElem?_eq_none h'] at hbk
  have c1 : w.drew.cell? ⟨b, 1, none⟩ = some (.slice (some ⟨g, 0, none⟩) 0 0) := by
    have : w.drew.heap[b]? = some (.cells #[p, .slice (some ⟨g, 0, none⟩) 0 0, .int .i64 n] 73 (0, 0)) := hbk
    rw [Lib.cell_of_heap this]; rfl
  have hSD : (Builtin.unsafeSliceData_ #[69] 104 #[.slice (some ⟨g, 0, none⟩) 0 0]).run Tryd.prog w.drew = .ok (.pointer (some ⟨w.drew.heap.size, 0, none⟩)) (w.drew.alloc (.view ⟨g, 0, none⟩ 5)) :=
    Lib.run_unsafeSliceData_zero w.drew _ _ 5 Tryd.underlying104 ⟨g, 0, none⟩ 0 (5, cur.size) (by have hg' : w.drew.heap[g]? = some (.cells cur 5 (0, 0)) := hg; simp [World.shape?, hg'])
  have c2 : (w.drew.alloc (.view ⟨g, 0, none⟩ 5)).cell? ⟨b, 1, none⟩ = some (.slice (some ⟨g, 0, none⟩) 0 0) := by
    have : (w.drew.alloc (.view ⟨g, 0, none⟩ 5)).heap[b]? = _ := (Lib.alloc_old w.drew _ b hlt).trans hbk
    rw [Lib.cell_of_heap this]; rfl
  have c3 : (w.alloc (.view ⟨g, 0, none⟩ 5)).drew.cell? ⟨b, 1, none⟩ = some (.slice (some ⟨g, 0, none⟩) 0 0) := c2
  have c0 : w.cell? ⟨b, 1, none⟩ = some (.slice (some ⟨g, 0, none⟩) 0 0) := c1
  clear hbk hg hlt
  go_enter Tryd.func41, Tryd.ntmps41
  go_wp2
  go_region
  all_goals (go_wp2; go_ret; exact ⟨rfl, (Below.drew (Below.refl B w)).alloc hBw _⟩)
set_option maxHeartbeats 2000000 in
set_option maxRecDepth 100000 in
theorem pg_string_room (B b g cap : Nat) (p : Value) (n : Int) (w : World) (hc0 : cap ≠ 0) (hbk : w.heap[b]? = some (.cells #[p, .slice (some ⟨g, 0, none⟩) 0 cap, .int .i64 n] 73 (0, 0))) :
    Calls Tryd.prog 41 #[.pointer (some ⟨b, 0, none⟩)] w fun e w' => e = .returned (.string ⟨#[]⟩) ∧ Below B w w' := by
  have hUS := us_none
  have c1 : w.drew.cell? ⟨b, 1, none⟩ = some (.slice (some ⟨g, 0, none⟩) 0 cap) := by
    have : w.drew.heap[b]? = some (.cells #[p, .slice (some ⟨g, 0, none⟩) 0 cap, .int .i64 n] 73 (0, 0)) := hbk
    rw [Lib.cell_of_heap this]; rfl
  have hSD : (Builtin.unsafeSliceData_ #[69] 104 #[.slice (some ⟨g, 0, none⟩) 0 cap]).run Tryd.prog w.drew = .ok (.pointer (some ⟨g, 0, none⟩)) w.drew :=
    Lib.run_unsafeSliceData_row _ _ _ _ _ _ hc0
  clear hc0 hbk
  go_enter Tryd.func41, Tryd.ntmps41
  go_wp2
  go_region
  all_goals (go_wp2; go_ret; exact ⟨rfl, Below.drew (Below.refl B w)⟩)
theorem pg_string (B b : Nat) (l : List UInt8) (n : Int) (w : World) (h : IsPage B b l n w) (hBw : B ≤ w.heap.size) :
    Calls Tryd.prog 41 #[.pointer (some ⟨b, 0, none⟩)] w fun e w' => e = .returned (.string ⟨l.toArray⟩) ∧ Below B w w' := by
  cases l with
  | cons x r => exact pg_string_some B b (x :: r) n w h (by simp)
  | nil =>
    obtain ⟨p, hB, v, hbk, hown, hne⟩ : ∃ p, PageAt B b p [] n w := by
      rcases h with h | h
      · exact ⟨_, h⟩
      · exact ⟨_, h⟩
    rcases hown.2 with ⟨rfl, _⟩ | ⟨g, cap, cur, rfl, hbg, hg, _, _, _, _⟩
    · exact pg_string_new B b p n w hbk
    · by_cases hc0 : cap = 0
      · subst hc0
        exact pg_string_noroom B b g p n cur w hBw hbk hg
      · exact pg_string_room B b g cap p n w hc0 hbk
theorem kept_of_below {e : TypeId} {b : Option Nat} {w w' : World} (h : Below w.heap.size w w') : Lib.OthersKept e b w w' := fun k o hk _ _ => (h.block k (Array.getElem?_eq_some_iff.1 hk).1).trans hk
end Go.Proofs.YtlhnfgnihakcfaaDoor.Ax
set_option linter.unusedSimpArgs false
set_option linter.unusedVariables false
namespace Go.Proofs.YtlhnfgnihakcfaaDoor.Ax
open Go.RowKit Hp Kn Lx
open Go.Proofs.YtlhnfgnihakcfaaDoorW.PrintWords Go.Proofs.YtlhnfgnihakcfaaDoorW.PrintLast Go.Proofs.YtlhnfgnihakcfaaDoorW.PrintMore
def bts (s : ByteArray) : List UInt8 := s.data.toList
def lineT (m : Nat) (ps : List ByteArray) : List UInt8 := Lib.repeatL [32, 32] m ++ ps.flatMap bts ++ [10]
theorem Blk.kept {w w' : World} {g b : Nat} {cs : List Value} {t : TypeId} (h : Blk w g cs t) (hk : Lib.OthersKept 5 (some b) w w') (hg : g ≠ b) (ht : t ≠ 5) : Blk w' g cs t :=
  hk g _ h (by simpa using hg) (by intro c fz e; injection e with _ e2 _; exact ht e2)
theorem repeatL_len (m : Nat) : (Lib.repeatL [32, 32] m).length = 2 * m := by
  induction m with
  | zero => rfl
  | succ k ih => simp [Lib.repeatL, List.replicate_succ] at ih ⊢; omega
theorem flat_take (ps : List ByteArray) (k : Nat) (s : ByteArray) (h : ps[k]? = some s) : (ps.take (k + 1)).flatMap bts = (ps.take k).flatMap bts ++ bts s := by
  rw [List.take_add_one, h]
  simp
theorem flat_le (ps : List ByteArray) (k : Nat) (s : ByteArray) (h : ps[k]? = some s) : ((ps.take k).flatMap bts).length + s.size ≤ (ps.flatMap bts).length := by
  have e := flat_take ps k s h
  have e2 : ps.flatMap bts = (ps.take (k + 1)).flatMap bts ++ (ps.drop (k + 1)).flatMap bts := by rw [← List.flatMap_append, List.take_append_drop]
  have e3 : (bts s).length = s.size := by unfold bts; rw [Array.length_toList]; rfl
  rw [e2, e]
  simp only [List.length_append]
  omega
set_option maxRecDepth 100000 in
set_option maxHeartbeats 2000000 in
theorem line_calls (B b : Nat) (l : List UInt8) (m : Nat) (hm : m ≤ 100000) (w : World) (h : IsPage B b l (m : Int) w) (ps : List ByteArray) (pb cap : Nat) (t : TypeId) (hp : Blk w pb (ps.map Value.string) t) (ht : t ≠ 5) (hpb : pb ≠ b) (hps : ps.length ≤ 1000) (hlen : l.length + (lineT m ps).length ≤ 140737488355328) (hBw : B ≤ w.heap.size) :
    Calls Tryd.prog 39 #[.pointer (some ⟨b, 0, none⟩), .slice (some ⟨pb, 0, none⟩) ps.length cap] w fun e w' => e = .returned (.tuple #[]) ∧ IsPage B b (l ++ lineT m ps) (m : Int) w' ∧ Below B w w' ∧ Lib.OthersKept 5 (some b) w w' := by
  have hlen2 : l.length + 2 * m + (ps.flatMap bts).length + 1 ≤ 140737488355328 := by
    unfold lineT at hlen
    simp only [List.length_append, repeatL_len, List.length_cons, List.length_nil] at hlen
    omega
  have HH := Lib.hid h
  have HQ := Lib.hid hp
  clear h hp hlen
  go_enter Tryd.func39, Tryd.ntmps39
  go_wp2_with fail
  have hS : (fun W => W.cell? ⟨b, 2, none⟩ = some (.int .i64 (m : Int))) w.drew := HH.out.cell2
  refine Rg.region_steps (S := (fun W => W.cell? ⟨b, 2, none⟩ = some (.int .i64 (m : Int)))) [.any 0, .any 1, .any 2, .any 3, .any 4, .any 5, .take 6, .one 7, .one 8] (by kernel_rfl) (by kernel_rfl) hS ?_
  refine Rg.p 6 ?_ ?_ rfl rfl (fun _ _ _ h => h) (by rfl) ?_ ?_ ?_; rotate_left 2; (intro w'; go_simp; with_reducible rfl); (simp only [Rg.pq, Rg.pz, Rg.ps]; rfl)
  refine Rg.p 7 ?_ ?_ rfl rfl (fun _ _ _ h => h) (by rfl) ?_ ?_ ?_; rotate_left 2; (intro w'; go_simp; with_reducible rfl); (simp only [Rg.pq, Rg.pz, Rg.ps]; rfl)
  refine Rg.p 8 ?_ ?_ rfl rfl (fun _ _ _ h => h) (by rfl) ?_ ?_ ?_; rotate_left 2; (intro w'; go_simp; with_reducible rfl); (simp only [Rg.pq, Rg.pz, Rg.ps]; rfl)
  refine Rg.p 9 ?_ ?_ rfl rfl (fun _ _ _ h => h) (by rfl) ?_ ?_ ?_; rotate_left 2; (intro w'; go_simp; with_reducible rfl); (simp only [Rg.pq, Rg.pz, Rg.ps]; rfl)
  refine Rg.p 10 ?_ ?_ rfl rfl (fun _ _ _ h => h) (by rfl) ?_ ?_ ?_; rotate_left 2; (intro w'; go_simp; with_reducible rfl); (simp only [Rg.pq, Rg.pz, Rg.ps]; rfl)
  refine Rg.p 11 ?_ ?_ rfl rfl (fun _ _ _ h => h) (by rfl) ?_ ?_ ?_; rotate_left 2; (intro w'; go_simp; with_reducible rfl); (simp only [Rg.pq, Rg.pz, Rg.ps]; rfl)
  refine Rg.t 12 ?_ ?_ rfl rfl (fun _ _ _ h => h) (by assumption) (by rfl) ?_ ?_ ?_; rotate_left 2; (rintro w' s0; go_simp; with_reducible rfl); (simp only [Rg.pq, Rg.pz, Rg.ps]; rfl)
  refine Rg.s_call (N := some 13) rfl rfl Tryd.func63 (by kernel_rfl) rfl #[.string ⟨#[32, 32]⟩, .int .i64 (m : Int)] (by rfl) rfl (by (try simp only [List.map_toArray, List.map_cons, List.map_nil]); first | done | rfl) ?_
  refine (Tryd.strings_Repeat ⟨#[32, 32]⟩ m _ (by omega) (by show 2 * m ≤ _; omega)).mono ?_
  rintro e w2 ⟨rfl, hb2⟩
  have hP2 : IsPage B b l (m : Int) w2 := IsPage.below (w := w.drew) HH.out hb2
  have HB2 := Lib.hid (below_next (Below.refl B w).drew hBw hb2)
  have HK2 := Lib.hid ((Lib.OthersKept.refl 5 (some b) w).drew.trans (kept_of_below hb2))
  have hS2 := hP2.cell2
  clear hS hb2
  refine ⟨hS2, ?_⟩
  refine Rg.s_norm (a' := ?_) ?_ ?_; rotate_left; (simp only [Act.put, List.setIfInBounds_toArray, List.set_cons_zero, List.set_cons_succ]; rfl)
  refine Rg.s_call (N := some 14) rfl rfl Tryd.func62 (by kernel_rfl) rfl #[.pointer (some ⟨b, 0, none⟩), .string ⟨(Lib.repeatL [32, 32] m).toArray⟩] (by rfl) rfl (by (try simp only [List.map_toArray, List.map_cons, List.map_nil]); first | done | rfl) ?_
  refine (pg_write B b l m ⟨(Lib.repeatL [32, 32] m).toArray⟩ _ hP2 (by show l.length + (Lib.repeatL [32, 32] m).toArray.size ≤ _; rw [List.size_toArray, repeatL_len]; omega) (by have := HB2.out.size; omega)).mono ?_
  rintro e w3 ⟨rfl, hP3, hB3, hK3⟩
  have HP3 := Lib.hid (show IsPage B b (l ++ Lib.repeatL [32, 32] m) (m : Int) w3 from hP3)
  have HB3 := Lib.hid (HB2.out.trans hB3)
  have HK3 := Lib.hid (HK2.out.trans hK3)
  have hS3 := hP3.cell2
  clear hS2 hP2 hP3 hB3 hK3
  refine ⟨hS3, ?_⟩
  refine Rg.s_norm (a' := ?_) ?_ ?_; rotate_left; (simp only [Act.put, List.setIfInBounds_toArray, List.set_cons_zero, List.set_cons_succ]; rfl)
  refine Rg.s_done ?_
  clear hS3
  generalize (⟨(Lib.repeatL [32, 32] m).toArray⟩ : ByteArray) = rp
  go_wp2
  go_loopw [17] (fun i wr => ∃ k : Nat, k ≤ ps.length ∧ i = .int .i64 k ∧ Hid (IsPage B b (l ++ Lib.repeatL [32, 32] m ++ (ps.take k).flatMap bts) (m : Int) wr) ∧ Hid (Below B w wr) ∧ Hid (Lib.OthersKept 5 (some b) w wr)) (fun i _ => ps.length - (intOf i).toNat)
  case atStart => exact ⟨0, by omega, rfl, by simpa using HP3, HB3, HK3⟩
  case round =>
    obtain ⟨k, hk, rfl, hP, hB, hK⟩ := hrel
    by_cases hlt : k < ps.length
    · obtain ⟨s, hs⟩ : ∃ s, ps[k]? = some s := ⟨_, List.getElem?_eq_getElem hlt⟩
      have h0 : wr.cell? ⟨pb, k, none⟩ = some (.string s) := (Blk.kept HQ.out hK.out hpb ht).cell k (by simp [hs])
      have HS := Lib.hid hs
      have hle := flat_le ps k s hs
      clear hs
      go_wp2_with fail
      refine (pg_write B b _ m s _ hP.out (by simp only [List.length_append, repeatL_len]; omega) (by have := hB.out.size; omega)).mono ?_
      rintro e w4 ⟨rfl, hP4, hB4, hK4⟩
      have HP4 := Lib.hid hP4
      have HB4 := Lib.hid (hB.out.trans hB4)
      have HK4 := Lib.hid (hK.out.trans hK4)
      clear hP4 hB4 hK4 h0
      go_wp2_with fail
      go_roundw
      case rel =>
        refine ⟨k + 1, by omega, by go_num, ?_, HB4, HK4⟩
        rw [flat_take ps k s HS.out, ← List.append_assoc]
        exact HP4
      case measure => simp [intOf]; omega
    · go_wp2_with fail
      refine (pg_byte B b _ m 10 (by omega) _ hP.out (by simp only [List.length_append, repeatL_len]; rw [List.take_of_length_le (by omega)]; omega) (by have := hB.out.size; omega)).mono ?_
      rintro e w4 ⟨rfl, hP4, hB4, hK4⟩
      go_wp2_with fail
      go_end0
      refine ⟨rfl, ?_, hB.out.trans hB4, hK.out.trans hK4⟩
      rw [List.take_of_length_le (by omega)] at hP4
      unfold lineT
      simpa using hP4
end Go.Proofs.YtlhnfgnihakcfaaDoor.Ax
set_option linter.unusedSimpArgs false
set_option linter.unusedVariables false
namespace Go.Proofs.YtlhnfgnihakcfaaDoor.Ax
open Go.RowKit Hp Kn Lx
open Go.Proofs.YtlhnfgnihakcfaaDoorW.PrintWords Go.Proofs.YtlhnfgnihakcfaaDoorW.PrintLast Go.Proofs.YtlhnfgnihakcfaaDoorW.PrintMore
def kidS (x : S64) (i : Nat) : S40 := x.f2.getD i z40
def stT : Nat → Nat → S64 → List UInt8
  | 0, _, _ => []
  | n + 1, m, x =>
    if x.f0 = 1 then lineT m [x.f1, ⟨#[32, 61, 32]⟩, txt n (kidS x 0), ⟨#[59]⟩]
    else if x.f0 = 2 then lineT m [x.f1, ⟨#[91]⟩, txt n (kidS x 0), ⟨#[93, 32, 61, 32]⟩, txt n (kidS x 1), ⟨#[59]⟩]
    else if x.f0 = 5 then lineT m [⟨#[111, 117, 116, 32]⟩, txt n (kidS x 0), ⟨#[59]⟩]
    else if x.f0 = 3 then lineT m [⟨#[105, 102, 32, 40]⟩, txt n (kidS x 0), ⟨#[41, 32, 123]⟩] ++ x.f3.flatMap (stT n (m + 1)) ++ (if 0 < x.f4.length then lineT m [⟨#[125, 32, 101, 108, 115, 101, 32, 123]⟩] ++ x.f4.flatMap (stT n (m + 1)) else []) ++ lineT m [⟨#[125]⟩]
    else lineT m [⟨#[102, 111, 114, 32]⟩, x.f1, ⟨#[32, 61, 32]⟩, txt n (kidS x 0), ⟨#[32, 116, 111, 32]⟩, txt n (kidS x 1), ⟨#[32, 123]⟩] ++ x.f3.flatMap (stT n (m + 1)) ++ lineT m [⟨#[125]⟩]
def IHs (n : Nat) : Prop := ∀ (w0 : World), Gx w0 → ∀ (l : List S64), (∀ y ∈ l, OkS y) → l.all (stmtB n) = true → l.length ≤ 140737488351232 → ∀ (A : Option Addr) (c : Nat), Kd.C k64 w0 A l.length l → l.length ≤ c → ∀ (b : Nat) (l0 : List UInt8) (m : Nat), m + n ≤ 100 → ∀ (w : World), Below w0.heap.size w0 w → IsPage w0.heap.size b l0 (m : Int) w → l0.length + (l.flatMap (stT n m)).length ≤ 140737488355328 →
  Calls Tryd.prog 40 #[.pointer (some ⟨b, 0, none⟩), .slice A l.length c] w fun e w' => e = .returned (.tuple #[]) ∧ IsPage w0.heap.size b (l0 ++ l.flatMap (stT n m)) (m : Int) w' ∧ Below w0.heap.size w w' ∧ Lib.OthersKept 5 (some b) w w'
def IHi (n : Nat) : Prop := ∀ (w0 : World), Gx w0 → ∀ (l : List S64), (∀ y ∈ l, OkS y) → l.all (stmtB n) = true → l.length ≤ 140737488351232 → ∀ (A : Option Addr) (c : Nat), Kd.C k64 w0 A l.length l → l.length ≤ c → ∀ (b : Nat) (l0 : List UInt8) (m : Nat), m + 1 + n ≤ 100 → ∀ (w : World), Below w0.heap.size w0 w → IsPage w0.heap.size b l0 (m : Int) w → l0.length + (l.flatMap (stT n (m + 1))).length ≤ 140737488355328 →
  Calls Tryd.prog 66 #[.pointer (some ⟨b, 0, none⟩), .slice A l.length c] w fun e w' => e = .returned (.tuple #[]) ∧ IsPage w0.heap.size b (l0 ++ l.flatMap (stT n (m + 1))) (m : Int) w' ∧ Below w0.heap.size w w' ∧ Lib.OthersKept 5 (some b) w w'
set_option maxRecDepth 100000 in
theorem inner_calls_ {n : Nat} (IH : IHs n) : IHi n := by
  intro w0 hG l hO hv hlen A c hC hc b l0 m hm w hb hP hz
  have HP := Lib.hid hP
  have hw : IntKind.i64.wrap ((m : Int) + 1) = ((m + 1 : Nat) : Int) := by rw [IntKind.wrap_i64]; omega
  have hw2 : IntKind.i64.wrap (((m + 1 : Nat) : Int) - 1) = (m : Int) := by rw [IntKind.wrap_i64]; omega
  have c2 : w.cell? ⟨b, 2, none⟩ = some (.int .i64 (m : Int)) := hP.cell2
  have f2 := hP.frozen 2
  have HB := Lib.hid hb
  have HI := Lib.hid (And.intro hG (And.intro hO (And.intro hC hv)))
  clear hP hb hG hO hC hv
  go_enter Tryd.func66, Tryd.ntmps66
  go_wp2_with fail
  have HP1 := Lib.hid (HP.out.level ((m + 1 : Nat) : Int))
  have hb1 := (Below.refl w0.heap.size w).setCell (p := ⟨b, 2, none⟩) HP.out.le (.int .i64 ((m + 1 : Nat) : Int))
  have hk1 := (Lib.OthersKept.refl 5 (some b) w).setCell ⟨b, 2, none⟩ rfl (.int .i64 ((m + 1 : Nat) : Int))
  refine (IH w0 HI.out.1 l HI.out.2.1 HI.out.2.2.2 hlen A c HI.out.2.2.1 hc b l0 (m + 1) hm _ (HB.out.trans hb1) HP1.out hz).mono ?_
  rintro e w2 ⟨rfl, hP2, hb2, hk2⟩
  have HP2 := Lib.hid hP2
  have c3 : w2.cell? ⟨b, 2, none⟩ = some (.int .i64 ((m + 1 : Nat) : Int)) := hP2.cell2
  have f3 := hP2.frozen 2
  clear c2 f2 hP2
  go_wp2_with fail
  go_end0
  exact ⟨rfl, HP2.out.level _, (hb1.trans hb2).setCell (p := ⟨b, 2, none⟩) HP.out.le _, (hk1.trans hk2).setCell ⟨b, 2, none⟩ rfl _⟩
structure SNode (n : Nat) (x : S64) : Prop where
  kind : x.f0 = 1 ∨ x.f0 = 2 ∨ x.f0 = 3 ∨ x.f0 = 4 ∨ x.f0 = 5
  len : (x.f2.length : Int) = partsN x.f0
  kids : ∀ y ∈ x.f2, exprB n y = true
  then_ : x.f3.all (stmtB n) = true
  else_ : x.f4.all (stmtB n) = true
theorem snode_of {n : Nat} {x : S64} (h : stmtB (n + 1) x = true) : SNode n x := by
  simp only [stmtB, Bool.and_eq_true] at h
  obtain ⟨hs, ⟨h2, h3⟩, h4⟩ := h
  simp only [shapeS, Bool.and_eq_true, decide_eq_true_eq, beq_iff_eq] at hs
  obtain ⟨⟨⟨⟨⟨a1, a2⟩, a3⟩, _⟩, _⟩, _⟩ := hs
  exact ⟨by omega, a3, List.all_eq_true.1 h2, h3, h4⟩
theorem kidS_mem {x : S64} {i : Nat} (h : i < x.f2.length) : x.f2[i]? = some (kidS x i) ∧ kidS x i ∈ x.f2 := by
  have e : kidS x i = x.f2[i] := by simp [kidS, List.getD_eq_getElem?_getD, h]
  rw [e]
  exact ⟨List.getElem?_eq_getElem h, List.getElem_mem h⟩
def SBox (g : Nat) (x : S64) (A2 : Option Addr) (c2 : Nat) (A3 : Option Addr) (c3 : Nat) (A4 : Option Addr) (c4 : Nat) (W : World) : Prop :=
  Blk W g [.int .i64 x.f0, .string x.f1, .slice A2 x.f2.length c2, .slice A3 x.f3.length c3, .slice A4 x.f4.length c4] 64
def S5 (g : Nat) (x : S64) (A2 : Option Addr) (c2 : Nat) (A3 : Option Addr) (c3 : Nat) (A4 : Option Addr) (c4 : Nat) (W : World) : Prop :=
  W.cell? ⟨g, 0, none⟩ = some (.int .i64 x.f0) ∧ W.cell? ⟨g, 1, none⟩ = some (.string x.f1) ∧ W.cell? ⟨g, 2, none⟩ = some (.slice A2 x.f2.length c2) ∧ W.cell? ⟨g, 3, none⟩ = some (.slice A3 x.f3.length c3) ∧ W.cell? ⟨g, 4, none⟩ = some (.slice A4 x.f4.length c4)
theorem SBox.cells {g : Nat} {x : S64} {A2 : Option Addr} {c2 : Nat} {A3 : Option Addr} {c3 : Nat} {A4 : Option Addr} {c4 : Nat} {W : World} (h : SBox g x A2 c2 A3 c3 A4 c4 W) : S5 g x A2 c2 A3 c3 A4 c4 W :=
  ⟨Blk.cell h 0 rfl, Blk.cell h 1 rfl, Blk.cell h 2 rfl, Blk.cell h 3 rfl, Blk.cell h 4 rfl⟩
theorem flat_take2 {n m : Nat} (l : List S64) (k : Nat) (x : S64) (h : l[k]? = some x) : (l.take (k + 1)).flatMap (stT n m) = (l.take k).flatMap (stT n m) ++ stT n m x := by
  rw [List.take_add_one, h]
  simp
theorem flat_le2 {n m : Nat} (l : List S64) (k : Nat) (x : S64) (h : l[k]? = some x) : ((l.take k).flatMap (stT n m)).length + (stT n m x).length ≤ (l.flatMap (stT n m)).length := by
  have e := flat_take2 (n := n) (m := m) l k x h
  have e2 : l.flatMap (stT n m) = (l.take (k + 1)).flatMap (stT n m) ++ (l.drop (k + 1)).flatMap (stT n m) := by rw [← List.flatMap_append, List.take_append_drop]
  rw [e2, e]
  simp only [List.length_append]
  omega
set_option maxRecDepth 100000 in
set_option maxHeartbeats 8000000 in
theorem stmts_step (n : Nat) (hn : n ≤ 25) (IH : ∀ n', n' + 1 = n → IHi n') : IHs n := by
  intro w0 hG l hO hv hlen A c hC hc b l0 m hm w hb hP hz
  have HI := Lib.hid (And.intro hG (And.intro hO (And.intro hC hv)))
  have HB := Lib.hid hb
  have HP := Lib.hid hP
  have HH := Lib.hid IH
  clear hG hO hC hv hb hP IH
  go_enter Tryd.func40, Tryd.ntmps40
  go_wp2
  go_loopw [8] (fun i wr => ∃ k : Nat, k ≤ l.length ∧ i = .int .i64 k ∧ Hid (IsPage w0.heap.size b (l0 ++ (l.take k).flatMap (stT n m)) (m : Int) wr) ∧ Hid (Below w0.heap.size w wr) ∧ Hid (Lib.OthersKept 5 (some b) w wr)) (fun i _ => l.length - (intOf i).toNat)
  case atStart => exact ⟨0, by omega, rfl, by simpa using HP, Below.refl _ _, Lib.OthersKept.refl _ _ _⟩
  case round =>
    obtain ⟨k, hk, rfl, hP, hB, hK⟩ := hrel
    by_cases hlt : k < l.length
    · obtain ⟨x, hs⟩ : ∃ x, l[k]? = some x := ⟨_, List.getElem?_eq_getElem hlt⟩
      have hmem : x ∈ l := List.mem_of_getElem? hs
      have hO5 := HI.out.2.1 x hmem
      have hvx : stmtB n x = true := List.all_eq_true.1 HI.out.2.2.2 x hmem
      obtain ⟨n', rfl⟩ : ∃ n', n = n' + 1 := by
        cases n with
        | zero => cases hvx
        | succ n' => exact ⟨n', rfl⟩
      have hN := snode_of hvx
      have IHI := HH.out n' rfl
      have HJ := Lib.hid IHI
      have hz2 : l0.length + (((l.take k).flatMap (stT (n' + 1) m)).length + (stT (n' + 1) m x).length) ≤ 140737488355328 := by
        have := flat_le2 (n := n' + 1) (m := m) l k x hs
        omega
      clear hvx IHI
      obtain ⟨ad, A2, c2, A3, c3, A4, c4, rfl, h0, h1, h2, h3, h4, l2, g2, l3, g3, l4, g4⟩ := at_T64 HI.out.2.2.1 (k : Int) (by omega) (by omega)
      have hrd : rd_T64 l (k : Int) = x := by simp [rd_T64, List.getD_eq_getElem?_getD, hs]
      rw [hrd] at h0 h1 h2 h3 h4 l2 g2 l3 g3 l4 g4
      have hbw : Below w0.heap.size w0 wr := HB.out.trans hB.out
      have h0 : wr.cell? (ad.add (k * 5)) = some (.int .i64 x.f0) := (hbw.cell (World.block_lt_of_cell? w0 _ h0)).trans h0
      have h1 : wr.cell? ⟨(ad.add (k * 5)).block, (ad.add (k * 5)).off + 1, none⟩ = some (.string x.f1) := (hbw.cell (World.block_lt_of_cell? w0 _ h1)).trans h1
      have h2 : wr.cell? ⟨(ad.add (k * 5)).block, (ad.add (k * 5)).off + 2, none⟩ = some (.slice A2 x.f2.length c2) := (hbw.cell (World.block_lt_of_cell? w0 _ h2)).trans h2
      have h3 : wr.cell? ⟨(ad.add (k * 5)).block, (ad.add (k * 5)).off + 3, none⟩ = some (.slice A3 x.f3.length c3) := (hbw.cell (World.block_lt_of_cell? w0 _ h3)).trans h3
      have h4 : wr.cell? ⟨(ad.add (k * 5)).block, (ad.add (k * 5)).off + 4, none⟩ = some (.slice A4 x.f4.length c4) := (hbw.cell (World.block_lt_of_cell? w0 _ h4)).trans h4
      have hC2 := g2
      have HL := Lib.hid (And.intro l2 (And.intro l3 (And.intro l4 (And.intro g3 g4))))
      have hk2 : ∀ e ∈ x.f2, OkE e := by cases hO5; assumption
      have HE := Lib.hid hk2
      clear hrd hmem l2 l3 l4 g2 g3 g4 hbw
      rcases hN.kind with hf | hf | hf | hf | hf
      ·
        have hlen2 : 1 ≤ x.f2.length := by have := hN.len; rw [hf] at this; simp [partsN] at this; omega
        obtain ⟨ae, rfl⟩ := some_addr hC2 (by omega)
        obtain ⟨yA, yc, yE, yl, yC⟩ := kid_at hC2 0 (kidS_mem (x := x) (i := 0) (by omega)).1
        rw [add_zero] at yE
        have yT := text_calls n' (by omega) (kidS x 0) (hk2 _ (kidS_mem (x := x) (i := 0) (by omega)).2) (hN.kids _ (kidS_mem (x := x) (i := 0) (by omega)).2)
        have my : (0 : Int) < (x.f2.length : Int) := by omega
        have ny : 0 < x.f2.length := by omega
        have hst : stT (n' + 1) m x = lineT m [x.f1, ⟨#[32, 61, 32]⟩, txt n' (kidS x 0), ⟨#[59]⟩] := by unfold stT; simp only [hf]; rfl
        have hz3 := hz2
        rw [hst] at hz3
        have HX := Lib.hid (And.intro hs hst)
        have HZ3 := Lib.hid hz3
        clear hst hz2 hz3
        have e1 : (x.f0 == 1) = true := by rw [hf]; rfl
        generalize kidS x 0 = y at yE yl yC yT HX HZ3
        generalize txt n' y = yt at yT HX HZ3
        have yH := Lib.hid (And.intro yl (And.intro yC yT))
        have HN := Lib.hid (And.intro hN (And.intro hf hO5))
        clear hs hN hf hO5 hC2 yl yC yT
        have mk : ∀ W, SBox wr.heap.size x (some ae) c2 A3 c3 A4 c4 W → Below w0.heap.size w0 W → (fun W => S5 wr.heap.size x (some ae) c2 A3 c3 A4 c4 W ∧ ECells ae y yA yc W) W := fun W h1 h2 => ⟨h1.cells, yE.below h2⟩
        have MK := Lib.hid mk
        clear mk
        have hbx : SBox wr.heap.size x (some ae) c2 A3 c3 A4 c4 (wr.alloc (.cells #[.int .i64 x.f0, .string x.f1, .slice (some ae) x.f2.length c2, .slice A3 x.f3.length c3, .slice A4 x.f4.length c4] 64)) := Blk.alloc_new wr _ _
        have HW1 := Lib.hid hbx
        have HP1 := Lib.hid (hP.out.below ((Below.refl wr.heap.size wr).alloc (Nat.le_refl _) (.cells #[.int .i64 x.f0, .string x.f1, .slice (some ae) x.f2.length c2, .slice A3 x.f3.length c3, .slice A4 x.f4.length c4] 64)))
        have HB1 := Lib.hid (hB.out.alloc (by have := hB.out.size; have := HB.out.size; omega) (.cells #[.int .i64 x.f0, .string x.f1, .slice (some ae) x.f2.length c2, .slice A3 x.f3.length c3, .slice A4 x.f4.length c4] 64))
        have HK1 := Lib.hid (hK.out.alloc (.cells #[.int .i64 x.f0, .string x.f1, .slice (some ae) x.f2.length c2, .slice A3 x.f3.length c3, .slice A4 x.f4.length c4] 64))
        clear hbx
        go_wp2_with fail
        have hS : (fun W => S5 wr.heap.size x (some ae) c2 A3 c3 A4 c4 W ∧ ECells ae y yA yc W) (wr.alloc (.cells #[.int .i64 x.f0, .string x.f1, .slice (some ae) x.f2.length c2, .slice A3 x.f3.length c3, .slice A4 x.f4.length c4] 64)).drew := MK.out _ HW1.out (HB.out.trans HB1.out).drew
        refine Rg.region_steps (S := (fun W => S5 wr.heap.size x (some ae) c2 A3 c3 A4 c4 W ∧ ECells ae y yA yc W)) [.any 0, .any 1, .take 2, .any 3, .take 4, .any 5, .take 6, .one 7, .one 8, .one 9] (by kernel_rfl) (by kernel_rfl) hS ?_
        refine Rg.p 16 ?_ ?_ rfl rfl (fun _ _ _ h => h) (by rfl) ?_ ?_ ?_; rotate_left 2; (intro w'; go_simp; with_reducible rfl); (simp only [Rg.pq, Rg.pz, Rg.ps]; rfl)
        refine Rg.p 17 ?_ ?_ rfl rfl (fun _ _ _ h => h) (by rfl) ?_ ?_ ?_; rotate_left 2; (intro w'; go_simp; with_reducible rfl); (simp only [Rg.pq, Rg.pz, Rg.ps]; rfl)
        refine Rg.t 18 ?_ ?_ rfl rfl (fun _ _ _ h => h) (by assumption) (by rfl) ?_ ?_ ?_; rotate_left 2; (rintro w' ⟨⟨s0, s1, s2, s3, s4⟩, ⟨y0, y1, y2, y3, y4⟩⟩; go_simp; with_reducible rfl); (simp only [Rg.pq, Rg.pz, Rg.ps]; rfl)
        refine Rg.p 19 ?_ ?_ rfl rfl (fun _ _ _ h => h) (by rfl) ?_ ?_ ?_; rotate_left 2; (intro w'; go_simp; with_reducible rfl); (simp only [Rg.pq, Rg.pz, Rg.ps]; rfl)
        refine Rg.t 20 ?_ ?_ rfl rfl (fun _ _ _ h => h) (by assumption) (by rfl) ?_ ?_ ?_; rotate_left 2; (rintro w' ⟨⟨s0, s1, s2, s3, s4⟩, ⟨y0, y1, y2, y3, y4⟩⟩; go_simp; with_reducible rfl); (simp only [Rg.pq, Rg.pz, Rg.ps]; rfl)
        refine Rg.p 21 ?_ ?_ rfl rfl (fun _ _ _ h => h) (by rfl) ?_ ?_ ?_; rotate_left 2; (intro w'; go_simp; with_reducible rfl); (simp only [Rg.pq, Rg.pz, Rg.ps]; rfl)
        refine Rg.t 22 ?_ ?_ rfl rfl (fun _ _ _ h => h) (by assumption) (by rfl) ?_ ?_ ?_; rotate_left 2; (rintro w' ⟨⟨s0, s1, s2, s3, s4⟩, ⟨y0, y1, y2, y3, y4⟩⟩; go_simp; with_reducible rfl); (simp only [Rg.pq, Rg.pz, Rg.ps]; rfl)
        refine Rg.s_call (N := some 23) rfl rfl Tryd.func65 (by kernel_rfl) rfl #[.agg #[.int .i64 y.f0, .int .i64 y.f1, .int .u64 y.f2, .string y.f3, .slice yA y.f4.length yc]] (by rfl) rfl (by (try simp only [List.map_toArray, List.map_cons, List.map_nil]); first | done | rfl) ?_
        refine (yH.out.2.2 yA yc _ (HI.out.1.below (HB.out.trans HB1.out).drew) (Kd.C_below yH.out.2.1 (HB.out.trans HB1.out).drew) yH.out.1).mono ?_
        rintro e w2 ⟨rfl, hc⟩
        have HW2 := Lib.hid (show SBox wr.heap.size x (some ae) c2 A3 c3 A4 c4 w2 from Blk.below (w := (wr.alloc (.cells #[.int .i64 x.f0, .string x.f1, .slice (some ae) x.f2.length c2, .slice A3 x.f3.length c3, .slice A4 x.f4.length c4] 64)).drew) HW1.out hc (Blk.lt HW1.out))
        have HP2 := Lib.hid (IsPage.below (w := (wr.alloc (.cells #[.int .i64 x.f0, .string x.f1, .slice (some ae) x.f2.length c2, .slice A3 x.f3.length c3, .slice A4 x.f4.length c4] 64)).drew) HP1.out hc)
        have HB2 := Lib.hid (below_next (w1 := (wr.alloc (.cells #[.int .i64 x.f0, .string x.f1, .slice (some ae) x.f2.length c2, .slice A3 x.f3.length c3, .slice A4 x.f4.length c4] 64)).drew) HB1.out.drew (by have := HB.out.size; have := HB1.out.size; omega) hc)
        have HK2 := Lib.hid (HK1.out.trans (kept_of_below (w := (wr.alloc (.cells #[.int .i64 x.f0, .string x.f1, .slice (some ae) x.f2.length c2, .slice A3 x.f3.length c3, .slice A4 x.f4.length c4] 64)).drew) hc))
        have hS2 := MK.out _ HW2.out (HB.out.trans HB2.out)
        clear hS hc
        refine ⟨hS2, ?_⟩
        refine Rg.s_norm (a' := ?_) ?_ ?_; rotate_left; (simp only [Act.put, List.setIfInBounds_toArray, List.set_cons_zero, List.set_cons_succ]; rfl)
        have HA := Lib.hid (Blk.alloc_new w2 [.string x.f1, .string ⟨#[32, 61, 32]⟩, .string yt, .string ⟨#[59]⟩] 9)
        have HW3 := Lib.hid (show SBox wr.heap.size x (some ae) c2 A3 c3 A4 c4 (w2.alloc (.cells #[.string x.f1, .string ⟨#[32, 61, 32]⟩, .string yt, .string ⟨#[59]⟩] 9)) from Blk.alloc HW2.out _)
        have HP3 := Lib.hid (IsPage.below (w := w2) HP2.out ((Below.refl w2.heap.size w2).alloc (Nat.le_refl _) (.cells #[.string x.f1, .string ⟨#[32, 61, 32]⟩, .string yt, .string ⟨#[59]⟩] 9)))
        have HB3 := Lib.hid (HB2.out.alloc (by have := HB.out.size; have := HB2.out.size; omega) (.cells #[.string x.f1, .string ⟨#[32, 61, 32]⟩, .string yt, .string ⟨#[59]⟩] 9))
        have HK3 := Lib.hid (HK2.out.alloc (.cells #[.string x.f1, .string ⟨#[32, 61, 32]⟩, .string yt, .string ⟨#[59]⟩] 9))
        have hS3 := MK.out _ HW3.out (HB.out.trans HB3.out)
        clear hS2
        refine Rg.s_value (N := some 24) (a' := ?_) rfl rfl (by rfl) (by go_simp; rfl) hS3 ?_ ?_; rotate_left; (simp only [Act.put, List.setIfInBounds_toArray, List.set_cons_zero, List.set_cons_succ]; rfl)
        refine Rg.s_call (N := some 25) rfl rfl Tryd.func39 (by kernel_rfl) rfl #[.pointer (some ⟨b, 0, none⟩), .slice (some ⟨w2.heap.size, 0, none⟩) 4 4] (by rfl) rfl (by (try simp only [List.map_toArray, List.map_cons, List.map_nil]); first | done | rfl) ?_
        refine (line_calls w0.heap.size b _ m (by omega) _ HP3.out [x.f1, ⟨#[32, 61, 32]⟩, yt, ⟨#[59]⟩] w2.heap.size 4 9 HA.out (by decide) (by have := HP2.out.lt; omega) (by simp) (by have := HZ3.out; simp only [List.length_append] at this ⊢; omega) (by have := HB.out.size; have := HB3.out.size; omega)).mono ?_
        rintro e w4 ⟨rfl, hp, hb, hk⟩
        have HW4 := Lib.hid (show SBox wr.heap.size x (some ae) c2 A3 c3 A4 c4 w4 from Blk.kept HW3.out hk (by have := hP.out.lt; omega) (by decide))
        have HP4 := Lib.hid hp
        have HB4 := Lib.hid (HB3.out.trans hb)
        have HK4 := Lib.hid (HK3.out.trans hk)
        have hS4 := MK.out _ HW4.out (HB.out.trans HB4.out)
        clear hS3 hp hb hk
        refine ⟨hS4, ?_⟩
        refine Rg.s_norm (a' := ?_) ?_ ?_; rotate_left; (simp only [Act.put, List.setIfInBounds_toArray, List.set_cons_zero, List.set_cons_succ]; rfl)
        refine Rg.s_done ?_
        clear hS4
        go_wp2_with fail
        go_roundw
        case rel =>
          refine ⟨k + 1, by omega, by go_num, ?_, HB4, HK4⟩
          rw [flat_take2 l k x HX.out.1, ← List.append_assoc]
          rw [HX.out.2]
          exact HP4.out
        case measure => simp [intOf]; omega
      ·
        have hlen2 : 2 ≤ x.f2.length := by have := hN.len; rw [hf] at this; simp [partsN] at this; omega
        obtain ⟨ae, rfl⟩ := some_addr hC2 (by omega)
        obtain ⟨yA, yc, yE, yl, yC⟩ := kid_at hC2 0 (kidS_mem (x := x) (i := 0) (by omega)).1
        rw [add_zero] at yE
        have yT := text_calls n' (by omega) (kidS x 0) (hk2 _ (kidS_mem (x := x) (i := 0) (by omega)).2) (hN.kids _ (kidS_mem (x := x) (i := 0) (by omega)).2)
        have my : (0 : Int) < (x.f2.length : Int) := by omega
        have ny : 0 < x.f2.length := by omega
        obtain ⟨uA, uc, uE, ul, uC⟩ := kid_at hC2 1 (kidS_mem (x := x) (i := 1) (by omega)).1
        have uE : ECells ⟨ae.block, ae.off + 5, none⟩ (kidS x 1) uA uc w0 := uE
        have uT := text_calls n' (by omega) (kidS x 1) (hk2 _ (kidS_mem (x := x) (i := 1) (by omega)).2) (hN.kids _ (kidS_mem (x := x) (i := 1) (by omega)).2)
        have mu : (1 : Int) < (x.f2.length : Int) := by omega
        have nu : 1 < x.f2.length := by omega
        have hst : stT (n' + 1) m x = lineT m [x.f1, ⟨#[91]⟩, txt n' (kidS x 0), ⟨#[93, 32, 61, 32]⟩, txt n' (kidS x 1), ⟨#[59]⟩] := by unfold stT; simp only [hf]; rfl
        have hz3 := hz2
        rw [hst] at hz3
        have HX := Lib.hid (And.intro hs hst)
        have HZ3 := Lib.hid hz3
        clear hst hz2 hz3
        have e1 : (x.f0 == 1) = false := by rw [hf]; rfl
        have e2 : (x.f0 == 2) = true := by rw [hf]; rfl
        generalize kidS x 0 = y at yE yl yC yT HX HZ3
        generalize txt n' y = yt at yT HX HZ3
        generalize kidS x 1 = u at uE ul uC uT HX HZ3
        generalize txt n' u = ut at uT HX HZ3
        have yH := Lib.hid (And.intro yl (And.intro yC yT))
        have uH := Lib.hid (And.intro ul (And.intro uC uT))
        have HN := Lib.hid (And.intro hN (And.intro hf hO5))
        clear hs hN hf hO5 hC2 yl yC yT ul uC uT
        have mk : ∀ W, SBox wr.heap.size x (some ae) c2 A3 c3 A4 c4 W → Below w0.heap.size w0 W → (fun W => S5 wr.heap.size x (some ae) c2 A3 c3 A4 c4 W ∧ ECells ae y yA yc W ∧ ECells ⟨ae.block, ae.off + 5, none⟩ u uA uc W) W := fun W h1 h2 => ⟨h1.cells, yE.below h2, uE.below h2⟩
        have MK := Lib.hid mk
        clear mk
        have hbx : SBox wr.heap.size x (some ae) c2 A3 c3 A4 c4 (wr.alloc (.cells #[.int .i64 x.f0, .string x.f1, .slice (some ae) x.f2.length c2, .slice A3 x.f3.length c3, .slice A4 x.f4.length c4] 64)) := Blk.alloc_new wr _ _
        have HW1 := Lib.hid hbx
        have HP1 := Lib.hid (hP.out.below ((Below.refl wr.heap.size wr).alloc (Nat.le_refl _) (.cells #[.int .i64 x.f0, .string x.f1, .slice (some ae) x.f2.length c2, .slice A3 x.f3.length c3, .slice A4 x.f4.length c4] 64)))
        have HB1 := Lib.hid (hB.out.alloc (by have := hB.out.size; have := HB.out.size; omega) (.cells #[.int .i64 x.f0, .string x.f1, .slice (some ae) x.f2.length c2, .slice A3 x.f3.length c3, .slice A4 x.f4.length c4] 64))
        have HK1 := Lib.hid (hK.out.alloc (.cells #[.int .i64 x.f0, .string x.f1, .slice (some ae) x.f2.length c2, .slice A3 x.f3.length c3, .slice A4 x.f4.length c4] 64))
        clear hbx
        go_wp2_with fail
        have hS : (fun W => S5 wr.heap.size x (some ae) c2 A3 c3 A4 c4 W ∧ ECells ae y yA yc W ∧ ECells ⟨ae.block, ae.off + 5, none⟩ u uA uc W) (wr.alloc (.cells #[.int .i64 x.f0, .string x.f1, .slice (some ae) x.f2.length c2, .slice A3 x.f3.length c3, .slice A4 x.f4.length c4] 64)).drew := MK.out _ HW1.out (HB.out.trans HB1.out).drew
        refine Rg.region_steps (S := (fun W => S5 wr.heap.size x (some ae) c2 A3 c3 A4 c4 W ∧ ECells ae y yA yc W ∧ ECells ⟨ae.block, ae.off + 5, none⟩ u uA uc W)) [.any 0, .any 1, .take 2, .any 3, .take 4, .any 5, .take 6, .any 8, .take 9, .any 10, .take 11, .one 7, .one 12, .one 13, .one 14] (by kernel_rfl) (by kernel_rfl) hS ?_
        refine Rg.p 28 ?_ ?_ rfl rfl (fun _ _ _ h => h) (by rfl) ?_ ?_ ?_; rotate_left 2; (intro w'; go_simp; with_reducible rfl); (simp only [Rg.pq, Rg.pz, Rg.ps]; rfl)
        refine Rg.p 29 ?_ ?_ rfl rfl (fun _ _ _ h => h) (by rfl) ?_ ?_ ?_; rotate_left 2; (intro w'; go_simp; with_reducible rfl); (simp only [Rg.pq, Rg.pz, Rg.ps]; rfl)
        refine Rg.t 30 ?_ ?_ rfl rfl (fun _ _ _ h => h) (by assumption) (by rfl) ?_ ?_ ?_; rotate_left 2; (rintro w' ⟨⟨s0, s1, s2, s3, s4⟩, ⟨y0, y1, y2, y3, y4⟩, ⟨u0, u1, u2, u3, u4⟩⟩; go_simp; with_reducible rfl); (simp only [Rg.pq, Rg.pz, Rg.ps]; rfl)
        refine Rg.p 31 ?_ ?_ rfl rfl (fun _ _ _ h => h) (by rfl) ?_ ?_ ?_; rotate_left 2; (intro w'; go_simp; with_reducible rfl); (simp only [Rg.pq, Rg.pz, Rg.ps]; rfl)
        refine Rg.t 32 ?_ ?_ rfl rfl (fun _ _ _ h => h) (by assumption) (by rfl) ?_ ?_ ?_; rotate_left 2; (rintro w' ⟨⟨s0, s1, s2, s3, s4⟩, ⟨y0, y1, y2, y3, y4⟩, ⟨u0, u1, u2, u3, u4⟩⟩; go_simp; with_reducible rfl); (simp only [Rg.pq, Rg.pz, Rg.ps]; rfl)
        refine Rg.p 33 ?_ ?_ rfl rfl (fun _ _ _ h => h) (by rfl) ?_ ?_ ?_; rotate_left 2; (intro w'; go_simp; with_reducible rfl); (simp only [Rg.pq, Rg.pz, Rg.ps]; rfl)
        refine Rg.t 34 ?_ ?_ rfl rfl (fun _ _ _ h => h) (by assumption) (by rfl) ?_ ?_ ?_; rotate_left 2; (rintro w' ⟨⟨s0, s1, s2, s3, s4⟩, ⟨y0, y1, y2, y3, y4⟩, ⟨u0, u1, u2, u3, u4⟩⟩; go_simp; with_reducible rfl); (simp only [Rg.pq, Rg.pz, Rg.ps]; rfl)
        refine Rg.p 36 ?_ ?_ rfl rfl (fun _ _ _ h => h) (by rfl) ?_ ?_ ?_; rotate_left 2; (intro w'; go_simp; with_reducible rfl); (simp only [Rg.pq, Rg.pz, Rg.ps]; rfl)
        refine Rg.t 37 ?_ ?_ rfl rfl (fun _ _ _ h => h) (by assumption) (by rfl) ?_ ?_ ?_; rotate_left 2; (rintro w' ⟨⟨s0, s1, s2, s3, s4⟩, ⟨y0, y1, y2, y3, y4⟩, ⟨u0, u1, u2, u3, u4⟩⟩; go_simp; with_reducible rfl); (simp only [Rg.pq, Rg.pz, Rg.ps]; rfl)
        refine Rg.p 38 ?_ ?_ rfl rfl (fun _ _ _ h => h) (by rfl) ?_ ?_ ?_; rotate_left 2; (intro w'; go_simp; with_reducible rfl); (simp only [Rg.pq, Rg.pz, Rg.ps]; rfl)
        refine Rg.t 39 ?_ ?_ rfl rfl (fun _ _ _ h => h) (by assumption) (by rfl) ?_ ?_ ?_; rotate_left 2; (rintro w' ⟨⟨s0, s1, s2, s3, s4⟩, ⟨y0, y1, y2, y3, y4⟩, ⟨u0, u1, u2, u3, u4⟩⟩; go_simp; with_reducible rfl); (simp only [Rg.pq, Rg.pz, Rg.ps]; rfl)
        refine Rg.s_call (N := some 35) rfl rfl Tryd.func65 (by kernel_rfl) rfl #[.agg #[.int .i64 y.f0, .int .i64 y.f1, .int .u64 y.f2, .string y.f3, .slice yA y.f4.length yc]] (by rfl) rfl (by (try simp only [List.map_toArray, List.map_cons, List.map_nil]); first | done | rfl) ?_
        refine (yH.out.2.2 yA yc _ (HI.out.1.below (HB.out.trans HB1.out).drew) (Kd.C_below yH.out.2.1 (HB.out.trans HB1.out).drew) yH.out.1).mono ?_
        rintro e w2 ⟨rfl, hc⟩
        have HW2 := Lib.hid (show SBox wr.heap.size x (some ae) c2 A3 c3 A4 c4 w2 from Blk.below (w := (wr.alloc (.cells #[.int .i64 x.f0, .string x.f1, .slice (some ae) x.f2.length c2, .slice A3 x.f3.length c3, .slice A4 x.f4.length c4] 64)).drew) HW1.out hc (Blk.lt HW1.out))
        have HP2 := Lib.hid (IsPage.below (w := (wr.alloc (.cells #[.int .i64 x.f0, .string x.f1, .slice (some ae) x.f2.length c2, .slice A3 x.f3.length c3, .slice A4 x.f4.length c4] 64)).drew) HP1.out hc)
        have HB2 := Lib.hid (below_next (w1 := (wr.alloc (.cells #[.int .i64 x.f0, .string x.f1, .slice (some ae) x.f2.length c2, .slice A3 x.f3.length c3, .slice A4 x.f4.length c4] 64)).drew) HB1.out.drew (by have := HB.out.size; have := HB1.out.size; omega) hc)
        have HK2 := Lib.hid (HK1.out.trans (kept_of_below (w := (wr.alloc (.cells #[.int .i64 x.f0, .string x.f1, .slice (some ae) x.f2.length c2, .slice A3 x.f3.length c3, .slice A4 x.f4.length c4] 64)).drew) hc))
        have hS2 := MK.out _ HW2.out (HB.out.trans HB2.out)
        clear hS hc
        refine ⟨hS2, ?_⟩
        refine Rg.s_norm (a' := ?_) ?_ ?_; rotate_left; (simp only [Act.put, List.setIfInBounds_toArray, List.set_cons_zero, List.set_cons_succ]; rfl)
        refine Rg.s_call (N := some 40) rfl rfl Tryd.func65 (by kernel_rfl) rfl #[.agg #[.int .i64 u.f0, .int .i64 u.f1, .int .u64 u.f2, .string u.f3, .slice uA u.f4.length uc]] (by rfl) rfl (by (try simp only [List.map_toArray, List.map_cons, List.map_nil]); first | done | rfl) ?_
        refine (uH.out.2.2 uA uc _ (HI.out.1.below (HB.out.trans HB2.out)) (Kd.C_below uH.out.2.1 (HB.out.trans HB2.out)) uH.out.1).mono ?_
        rintro e w3 ⟨rfl, hc⟩
        have HW3 := Lib.hid (show SBox wr.heap.size x (some ae) c2 A3 c3 A4 c4 w3 from Blk.below (w := w2) HW2.out hc (Blk.lt HW2.out))
        have HP3 := Lib.hid (IsPage.below (w := w2) HP2.out hc)
        have HB3 := Lib.hid (below_next (w1 := w2) HB2.out (by have := HB.out.size; have := HB2.out.size; omega) hc)
        have HK3 := Lib.hid (HK2.out.trans (kept_of_below (w := w2) hc))
        have hS3 := MK.out _ HW3.out (HB.out.trans HB3.out)
        clear hS2 hc
        refine ⟨hS3, ?_⟩
        refine Rg.s_norm (a' := ?_) ?_ ?_; rotate_left; (simp only [Act.put, List.setIfInBounds_toArray, List.set_cons_zero, List.set_cons_succ]; rfl)
        have HA := Lib.hid (Blk.alloc_new w3 [.string x.f1, .string ⟨#[91]⟩, .string yt, .string ⟨#[93, 32, 61, 32]⟩, .string ut, .string ⟨#[59]⟩] 9)
        have HW4 := Lib.hid (show SBox wr.heap.size x (some ae) c2 A3 c3 A4 c4 (w3.alloc (.cells #[.string x.f1, .string ⟨#[91]⟩, .string yt, .string ⟨#[93, 32, 61, 32]⟩, .string ut, .string ⟨#[59]⟩] 9)) from Blk.alloc HW3.out _)
        have HP4 := Lib.hid (IsPage.below (w := w3) HP3.out ((Below.refl w3.heap.size w3).alloc (Nat.le_refl _) (.cells #[.string x.f1, .string ⟨#[91]⟩, .string yt, .string ⟨#[93, 32, 61, 32]⟩, .string ut, .string ⟨#[59]⟩] 9)))
        have HB4 := Lib.hid (HB3.out.alloc (by have := HB.out.size; have := HB3.out.size; omega) (.cells #[.string x.f1, .string ⟨#[91]⟩, .string yt, .string ⟨#[93, 32, 61, 32]⟩, .string ut, .string ⟨#[59]⟩] 9))
        have HK4 := Lib.hid (HK3.out.alloc (.cells #[.string x.f1, .string ⟨#[91]⟩, .string yt, .string ⟨#[93, 32, 61, 32]⟩, .string ut, .string ⟨#[59]⟩] 9))
        have hS4 := MK.out _ HW4.out (HB.out.trans HB4.out)
        clear hS3
        refine Rg.s_value (N := some 41) (a' := ?_) rfl rfl (by rfl) (by go_simp; rfl) hS4 ?_ ?_; rotate_left; (simp only [Act.put, List.setIfInBounds_toArray, List.set_cons_zero, List.set_cons_succ]; rfl)
        refine Rg.s_call (N := some 42) rfl rfl Tryd.func39 (by kernel_rfl) rfl #[.pointer (some ⟨b, 0, none⟩), .slice (some ⟨w3.heap.size, 0, none⟩) 6 6] (by rfl) rfl (by (try simp only [List.map_toArray, List.map_cons, List.map_nil]); first | done | rfl) ?_
        refine (line_calls w0.heap.size b _ m (by omega) _ HP4.out [x.f1, ⟨#[91]⟩, yt, ⟨#[93, 32, 61, 32]⟩, ut, ⟨#[59]⟩] w3.heap.size 6 9 HA.out (by decide) (by have := HP3.out.lt; omega) (by simp) (by have := HZ3.out; simp only [List.length_append] at this ⊢; omega) (by have := HB.out.size; have := HB4.out.size; omega)).mono ?_
        rintro e w5 ⟨rfl, hp, hb, hk⟩
        have HW5 := Lib.hid (show SBox wr.heap.size x (some ae) c2 A3 c3 A4 c4 w5 from Blk.kept HW4.out hk (by have := hP.out.lt; omega) (by decide))
        have HP5 := Lib.hid hp
        have HB5 := Lib.hid (HB4.out.trans hb)
        have HK5 := Lib.hid (HK4.out.trans hk)
        have hS5 := MK.out _ HW5.out (HB.out.trans HB5.out)
        clear hS4 hp hb hk
        refine ⟨hS5, ?_⟩
        refine Rg.s_norm (a' := ?_) ?_ ?_; rotate_left; (simp only [Act.put, List.setIfInBounds_toArray, List.set_cons_zero, List.set_cons_succ]; rfl)
        refine Rg.s_done ?_
        clear hS5
        go_wp2_with fail
        go_roundw
        case rel =>
          refine ⟨k + 1, by omega, by go_num, ?_, HB5, HK5⟩
          rw [flat_take2 l k x HX.out.1, ← List.append_assoc]
          rw [HX.out.2]
          exact HP5.out
        case measure => simp [intOf]; omega
      ·
        have hlen2 : 1 ≤ x.f2.length := by have := hN.len; rw [hf] at this; simp [partsN] at this; omega
        obtain ⟨ae, rfl⟩ := some_addr hC2 (by omega)
        obtain ⟨yA, yc, yE, yl, yC⟩ := kid_at hC2 0 (kidS_mem (x := x) (i := 0) (by omega)).1
        rw [add_zero] at yE
        have yT := text_calls n' (by omega) (kidS x 0) (hk2 _ (kidS_mem (x := x) (i := 0) (by omega)).2) (hN.kids _ (kidS_mem (x := x) (i := 0) (by omega)).2)
        have my : (0 : Int) < (x.f2.length : Int) := by omega
        have ny : 0 < x.f2.length := by omega
        have hst : stT (n' + 1) m x = lineT m [⟨#[105, 102, 32, 40]⟩, txt n' (kidS x 0), ⟨#[41, 32, 123]⟩] ++ x.f3.flatMap (stT n' (m + 1)) ++ (if 0 < x.f4.length then lineT m [⟨#[125, 32, 101, 108, 115, 101, 32, 123]⟩] ++ x.f4.flatMap (stT n' (m + 1)) else []) ++ lineT m [⟨#[125]⟩] := by unfold stT; simp only [hf]; rfl
        have hz3 := hz2
        rw [hst] at hz3
        have HX := Lib.hid (And.intro hs hst)
        have HZ3 := Lib.hid hz3
        clear hst hz2 hz3
        have e1 : (x.f0 == 1) = false := by rw [hf]; rfl
        have e2 : (x.f0 == 2) = false := by rw [hf]; rfl
        have e5 : (x.f0 == 5) = false := by rw [hf]; rfl
        have e3 : (x.f0 == 3) = true := by rw [hf]; rfl
        generalize kidS x 0 = y at yE yl yC yT HX HZ3
        generalize txt n' y = yt at yT HX HZ3
        have yH := Lib.hid (And.intro yl (And.intro yC yT))
        have HN := Lib.hid (And.intro hN (And.intro hf hO5))
        clear hs hN hf hO5 hC2 yl yC yT
        have mk : ∀ W, SBox wr.heap.size x (some ae) c2 A3 c3 A4 c4 W → Below w0.heap.size w0 W → (fun W => S5 wr.heap.size x (some ae) c2 A3 c3 A4 c4 W ∧ ECells ae y yA yc W) W := fun W h1 h2 => ⟨h1.cells, yE.below h2⟩
        have MK := Lib.hid mk
        clear mk
        have hbx : SBox wr.heap.size x (some ae) c2 A3 c3 A4 c4 (wr.alloc (.cells #[.int .i64 x.f0, .string x.f1, .slice (some ae) x.f2.length c2, .slice A3 x.f3.length c3, .slice A4 x.f4.length c4] 64)) := Blk.alloc_new wr _ _
        have HW1 := Lib.hid hbx
        have HP1 := Lib.hid (hP.out.below ((Below.refl wr.heap.size wr).alloc (Nat.le_refl _) (.cells #[.int .i64 x.f0, .string x.f1, .slice (some ae) x.f2.length c2, .slice A3 x.f3.length c3, .slice A4 x.f4.length c4] 64)))
        have HB1 := Lib.hid (hB.out.alloc (by have := hB.out.size; have := HB.out.size; omega) (.cells #[.int .i64 x.f0, .string x.f1, .slice (some ae) x.f2.length c2, .slice A3 x.f3.length c3, .slice A4 x.f4.length c4] 64))
        have HK1 := Lib.hid (hK.out.alloc (.cells #[.int .i64 x.f0, .string x.f1, .slice (some ae) x.f2.length c2, .slice A3 x.f3.length c3, .slice A4 x.f4.length c4] 64))
        clear hbx
        obtain ⟨⟨s0, s1, s2, s3, s4⟩, ⟨y0, y1, y2, y3, y4⟩⟩ := MK.out _ HW1.out (HB.out.trans HB1.out)
        go_wp2_with fail
        refine (yH.out.2.2 yA yc _ (HI.out.1.below (HB.out.trans HB1.out)) (Kd.C_below yH.out.2.1 (HB.out.trans HB1.out)) yH.out.1).mono ?_
        rintro e w2 ⟨rfl, hc⟩
        have HW2 := Lib.hid (show SBox wr.heap.size x (some ae) c2 A3 c3 A4 c4 w2 from Blk.below (w := (wr.alloc (.cells #[.int .i64 x.f0, .string x.f1, .slice (some ae) x.f2.length c2, .slice A3 x.f3.length c3, .slice A4 x.f4.length c4] 64))) HW1.out hc (Blk.lt HW1.out))
        have HP2 := Lib.hid (IsPage.below (w := (wr.alloc (.cells #[.int .i64 x.f0, .string x.f1, .slice (some ae) x.f2.length c2, .slice A3 x.f3.length c3, .slice A4 x.f4.length c4] 64))) HP1.out hc)
        have HB2 := Lib.hid (below_next (w1 := (wr.alloc (.cells #[.int .i64 x.f0, .string x.f1, .slice (some ae) x.f2.length c2, .slice A3 x.f3.length c3, .slice A4 x.f4.length c4] 64))) HB1.out (by have := HB.out.size; have := HB1.out.size; omega) hc)
        have HK2 := Lib.hid (HK1.out.trans (kept_of_below (w := (wr.alloc (.cells #[.int .i64 x.f0, .string x.f1, .slice (some ae) x.f2.length c2, .slice A3 x.f3.length c3, .slice A4 x.f4.length c4] 64))) hc))
        clear hc
        clear s0 s1 s2 s3 s4 y0 y1 y2 y3 y4
        have HA := Lib.hid (Blk.alloc_new w2 [.string ⟨#[105, 102, 32, 40]⟩, .string yt, .string ⟨#[41, 32, 123]⟩] 9)
        have HW3 := Lib.hid (show SBox wr.heap.size x (some ae) c2 A3 c3 A4 c4 (w2.alloc (.cells #[.string ⟨#[105, 102, 32, 40]⟩, .string yt, .string ⟨#[41, 32, 123]⟩] 9)) from Blk.alloc HW2.out _)
        have HP3 := Lib.hid (IsPage.below (w := w2) HP2.out ((Below.refl w2.heap.size w2).alloc (Nat.le_refl _) (.cells #[.string ⟨#[105, 102, 32, 40]⟩, .string yt, .string ⟨#[41, 32, 123]⟩] 9)))
        have HB3 := Lib.hid (HB2.out.alloc (by have := HB.out.size; have := HB2.out.size; omega) (.cells #[.string ⟨#[105, 102, 32, 40]⟩, .string yt, .string ⟨#[41, 32, 123]⟩] 9))
        have HK3 := Lib.hid (HK2.out.alloc (.cells #[.string ⟨#[105, 102, 32, 40]⟩, .string yt, .string ⟨#[41, 32, 123]⟩] 9))
        go_wp2_with fail
        refine (line_calls w0.heap.size b _ m (by omega) _ HP3.out [⟨#[105, 102, 32, 40]⟩, yt, ⟨#[41, 32, 123]⟩] w2.heap.size 3 9 HA.out (by decide) (by have := HP2.out.lt; omega) (by simp) (by have := HZ3.out; simp only [List.length_append] at this ⊢; omega) (by have := HB.out.size; have := HB3.out.size; omega)).mono ?_
        rintro e w4 ⟨rfl, hp, hb, hk⟩
        have HW4 := Lib.hid (show SBox wr.heap.size x (some ae) c2 A3 c3 A4 c4 w4 from Blk.kept HW3.out hk (by have := hP.out.lt; omega) (by decide))
        have HP4 := Lib.hid hp
        have HB4 := Lib.hid (HB3.out.trans hb)
        have HK4 := Lib.hid (HK3.out.trans hk)
        clear hp hb hk HA
        obtain ⟨⟨s0, s1, s2, s3, s4⟩, ⟨y0, y1, y2, y3, y4⟩⟩ := MK.out _ HW4.out (HB.out.trans HB4.out)
        go_wp2_with fail
        refine (HJ.out w0 HI.out.1 x.f3 (by cases HN.out.2.2; assumption) HN.out.1.then_ (by cases HN.out.2.2; assumption) A3 c3 HL.out.2.2.2.1 HL.out.2.1 b _ m (by omega) w4 (HB.out.trans HB4.out) HP4.out (by have := HZ3.out; simp only [List.length_append] at this ⊢; omega)).mono ?_
        rintro e w5 ⟨rfl, hp, hb, hk⟩
        clear s0 s1 s2 s3 s4 y0 y1 y2 y3 y4
        have HW5 := Lib.hid (show SBox wr.heap.size x (some ae) c2 A3 c3 A4 c4 w5 from Blk.kept HW4.out hk (by have := hP.out.lt; omega) (by decide))
        have HP5 := Lib.hid hp
        have HB5 := Lib.hid (HB4.out.trans hb)
        have HK5 := Lib.hid (HK4.out.trans hk)
        clear hp hb hk
        by_cases hE : 0 < x.f4.length
        · have hz5 := HZ3.out
          rw [if_pos hE] at hz5
          have HZ5 := Lib.hid hz5
          have HEE := Lib.hid hE
          clear hz5
          obtain ⟨⟨s0, s1, s2, s3, s4⟩, ⟨y0, y1, y2, y3, y4⟩⟩ := MK.out _ HW5.out (HB.out.trans HB5.out)
          have HA := Lib.hid (Blk.alloc_new w5 [.string ⟨#[125, 32, 101, 108, 115, 101, 32, 123]⟩] 9)
          have HW6 := Lib.hid (show SBox wr.heap.size x (some ae) c2 A3 c3 A4 c4 (w5.alloc (.cells #[.string ⟨#[125, 32, 101, 108, 115, 101, 32, 123]⟩] 9)) from Blk.alloc HW5.out _)
          have HP6 := Lib.hid (IsPage.below (w := w5) HP5.out ((Below.refl w5.heap.size w5).alloc (Nat.le_refl _) (.cells #[.string ⟨#[125, 32, 101, 108, 115, 101, 32, 123]⟩] 9)))
          have HB6 := Lib.hid (HB5.out.alloc (by have := HB.out.size; have := HB5.out.size; omega) (.cells #[.string ⟨#[125, 32, 101, 108, 115, 101, 32, 123]⟩] 9))
          have HK6 := Lib.hid (HK5.out.alloc (.cells #[.string ⟨#[125, 32, 101, 108, 115, 101, 32, 123]⟩] 9))
          go_wp2_with fail
          refine (line_calls w0.heap.size b _ m (by omega) _ HP6.out [⟨#[125, 32, 101, 108, 115, 101, 32, 123]⟩] w5.heap.size 1 9 HA.out (by decide) (by have := HP5.out.lt; omega) (by simp) (by have := HZ5.out; simp only [List.length_append] at this ⊢; omega) (by have := HB.out.size; have := HB6.out.size; omega)).mono ?_
          rintro e w7 ⟨rfl, hp, hb, hk⟩
          have HW7 := Lib.hid (show SBox wr.heap.size x (some ae) c2 A3 c3 A4 c4 w7 from Blk.kept HW6.out hk (by have := hP.out.lt; omega) (by decide))
          have HP7 := Lib.hid hp
          have HB7 := Lib.hid (HB6.out.trans hb)
          have HK7 := Lib.hid (HK6.out.trans hk)
          clear hp hb hk HA
          clear s0 s1 s2 s3 s4 y0 y1 y2 y3 y4
          obtain ⟨⟨s0, s1, s2, s3, s4⟩, ⟨y0, y1, y2, y3, y4⟩⟩ := MK.out _ HW7.out (HB.out.trans HB7.out)
          go_wp2_with fail
          refine (HJ.out w0 HI.out.1 x.f4 (by cases HN.out.2.2; assumption) HN.out.1.else_ (by cases HN.out.2.2; assumption) A4 c4 HL.out.2.2.2.2 HL.out.2.2.1 b _ m (by omega) w7 (HB.out.trans HB7.out) HP7.out (by have := HZ5.out; simp only [List.length_append] at this ⊢; omega)).mono ?_
          rintro e w8 ⟨rfl, hp, hb, hk⟩
          clear s0 s1 s2 s3 s4 y0 y1 y2 y3 y4
          have HW8 := Lib.hid (show SBox wr.heap.size x (some ae) c2 A3 c3 A4 c4 w8 from Blk.kept HW7.out hk (by have := hP.out.lt; omega) (by decide))
          have HP8 := Lib.hid hp
          have HB8 := Lib.hid (HB7.out.trans hb)
          have HK8 := Lib.hid (HK7.out.trans hk)
          clear hp hb hk
          have HA := Lib.hid (Blk.alloc_new w8 [.string ⟨#[125]⟩] 9)
          have HW9 := Lib.hid (show SBox wr.heap.size x (some ae) c2 A3 c3 A4 c4 (w8.alloc (.cells #[.string ⟨#[125]⟩] 9)) from Blk.alloc HW8.out _)
          have HP9 := Lib.hid (IsPage.below (w := w8) HP8.out ((Below.refl w8.heap.size w8).alloc (Nat.le_refl _) (.cells #[.string ⟨#[125]⟩] 9)))
          have HB9 := Lib.hid (HB8.out.alloc (by have := HB.out.size; have := HB8.out.size; omega) (.cells #[.string ⟨#[125]⟩] 9))
          have HK9 := Lib.hid (HK8.out.alloc (.cells #[.string ⟨#[125]⟩] 9))
          go_wp2_with fail
          refine (line_calls w0.heap.size b _ m (by omega) _ HP9.out [⟨#[125]⟩] w8.heap.size 1 9 HA.out (by decide) (by have := HP8.out.lt; omega) (by simp) (by have := HZ5.out; simp only [List.length_append] at this ⊢; omega) (by have := HB.out.size; have := HB9.out.size; omega)).mono ?_
          rintro e w10 ⟨rfl, hp, hb, hk⟩
          have HW10 := Lib.hid (show SBox wr.heap.size x (some ae) c2 A3 c3 A4 c4 w10 from Blk.kept HW9.out hk (by have := hP.out.lt; omega) (by decide))
          have HP10 := Lib.hid hp
          have HB10 := Lib.hid (HB9.out.trans hb)
          have HK10 := Lib.hid (HK9.out.trans hk)
          clear hp hb hk HA
          go_wp2_with fail
          go_roundw
          case rel =>
            refine ⟨k + 1, by omega, by go_num, ?_, HB10, HK10⟩
            rw [flat_take2 l k x HX.out.1, ← List.append_assoc]
            rw [HX.out.2]
            refine Lib.hid ?_
            rw [if_pos HEE.out]
            simpa only [List.append_assoc] using HP10.out
          case measure => simp [intOf]; omega
        · have hz5 := HZ3.out
          rw [if_neg hE] at hz5
          have HZ5 := Lib.hid hz5
          have HEE := Lib.hid hE
          clear hz5
          obtain ⟨⟨s0, s1, s2, s3, s4⟩, ⟨y0, y1, y2, y3, y4⟩⟩ := MK.out _ HW5.out (HB.out.trans HB5.out)
          have HA := Lib.hid (Blk.alloc_new w5 [.string ⟨#[125]⟩] 9)
          have HW6 := Lib.hid (show SBox wr.heap.size x (some ae) c2 A3 c3 A4 c4 (w5.alloc (.cells #[.string ⟨#[125]⟩] 9)) from Blk.alloc HW5.out _)
          have HP6 := Lib.hid (IsPage.below (w := w5) HP5.out ((Below.refl w5.heap.size w5).alloc (Nat.le_refl _) (.cells #[.string ⟨#[125]⟩] 9)))
          have HB6 := Lib.hid (HB5.out.alloc (by have := HB.out.size; have := HB5.out.size; omega) (.cells #[.string ⟨#[125]⟩] 9))
          have HK6 := Lib.hid (HK5.out.alloc (.cells #[.string ⟨#[125]⟩] 9))
          go_wp2_with fail
          refine (line_calls w0.heap.size b _ m (by omega) _ HP6.out [⟨#[125]⟩] w5.heap.size 1 9 HA.out (by decide) (by have := HP5.out.lt; omega) (by simp) (by have := HZ5.out; simp only [List.length_append] at this ⊢; omega) (by have := HB.out.size; have := HB6.out.size; omega)).mono ?_
          rintro e w7 ⟨rfl, hp, hb, hk⟩
          have HW7 := Lib.hid (show SBox wr.heap.size x (some ae) c2 A3 c3 A4 c4 w7 from Blk.kept HW6.out hk (by have := hP.out.lt; omega) (by decide))
          have HP7 := Lib.hid hp
          have HB7 := Lib.hid (HB6.out.trans hb)
          have HK7 := Lib.hid (HK6.out.trans hk)
          clear hp hb hk HA
          clear s0 s1 s2 s3 s4 y0 y1 y2 y3 y4
          go_wp2_with fail
          go_roundw
          case rel =>
            refine ⟨k + 1, by omega, by go_num, ?_, HB7, HK7⟩
            rw [flat_take2 l k x HX.out.1, ← List.append_assoc]
            rw [HX.out.2]
            refine Lib.hid ?_
            rw [if_neg HEE.out]
            simp only [List.append_nil]
            simpa only [List.append_assoc] using HP7.out
          case measure => simp [intOf]; omega
      ·
        have hlen2 : 2 ≤ x.f2.length := by have := hN.len; rw [hf] at this; simp [partsN] at this; omega
        obtain ⟨ae, rfl⟩ := some_addr hC2 (by omega)
        obtain ⟨yA, yc, yE, yl, yC⟩ := kid_at hC2 0 (kidS_mem (x := x) (i := 0) (by omega)).1
        rw [add_zero] at yE
        have yT := text_calls n' (by omega) (kidS x 0) (hk2 _ (kidS_mem (x := x) (i := 0) (by omega)).2) (hN.kids _ (kidS_mem (x := x) (i := 0) (by omega)).2)
        have my : (0 : Int) < (x.f2.length : Int) := by omega
        have ny : 0 < x.f2.length := by omega
        obtain ⟨uA, uc, uE, ul, uC⟩ := kid_at hC2 1 (kidS_mem (x := x) (i := 1) (by omega)).1
        have uE : ECells ⟨ae.block, ae.off + 5, none⟩ (kidS x 1) uA uc w0 := uE
        have uT := text_calls n' (by omega) (kidS x 1) (hk2 _ (kidS_mem (x := x) (i := 1) (by omega)).2) (hN.kids _ (kidS_mem (x := x) (i := 1) (by omega)).2)
        have mu : (1 : Int) < (x.f2.length : Int) := by omega
        have nu : 1 < x.f2.length := by omega
        have hst : stT (n' + 1) m x = lineT m [⟨#[102, 111, 114, 32]⟩, x.f1, ⟨#[32, 61, 32]⟩, txt n' (kidS x 0), ⟨#[32, 116, 111, 32]⟩, txt n' (kidS x 1), ⟨#[32, 123]⟩] ++ x.f3.flatMap (stT n' (m + 1)) ++ lineT m [⟨#[125]⟩] := by unfold stT; simp only [hf]; rfl
        have hz3 := hz2
        rw [hst] at hz3
        have HX := Lib.hid (And.intro hs hst)
        have HZ3 := Lib.hid hz3
        clear hst hz2 hz3
        have e1 : (x.f0 == 1) = false := by rw [hf]; rfl
        have e2 : (x.f0 == 2) = false := by rw [hf]; rfl
        have e5 : (x.f0 == 5) = false := by rw [hf]; rfl
        have e3 : (x.f0 == 3) = false := by rw [hf]; rfl
        have e4 : (x.f0 == 4) = true := by rw [hf]; rfl
        generalize kidS x 0 = y at yE yl yC yT HX HZ3
        generalize txt n' y = yt at yT HX HZ3
        generalize kidS x 1 = u at uE ul uC uT HX HZ3
        generalize txt n' u = ut at uT HX HZ3
        have yH := Lib.hid (And.intro yl (And.intro yC yT))
        have uH := Lib.hid (And.intro ul (And.intro uC uT))
        have HN := Lib.hid (And.intro hN (And.intro hf hO5))
        clear hs hN hf hO5 hC2 yl yC yT ul uC uT
        have mk : ∀ W, SBox wr.heap.size x (some ae) c2 A3 c3 A4 c4 W → Below w0.heap.size w0 W → (fun W => S5 wr.heap.size x (some ae) c2 A3 c3 A4 c4 W ∧ ECells ae y yA yc W ∧ ECells ⟨ae.block, ae.off + 5, none⟩ u uA uc W) W := fun W h1 h2 => ⟨h1.cells, yE.below h2, uE.below h2⟩
        have MK := Lib.hid mk
        clear mk
        have hbx : SBox wr.heap.size x (some ae) c2 A3 c3 A4 c4 (wr.alloc (.cells #[.int .i64 x.f0, .string x.f1, .slice (some ae) x.f2.length c2, .slice A3 x.f3.length c3, .slice A4 x.f4.length c4] 64)) := Blk.alloc_new wr _ _
        have HW1 := Lib.hid hbx
        have HP1 := Lib.hid (hP.out.below ((Below.refl wr.heap.size wr).alloc (Nat.le_refl _) (.cells #[.int .i64 x.f0, .string x.f1, .slice (some ae) x.f2.length c2, .slice A3 x.f3.length c3, .slice A4 x.f4.length c4] 64)))
        have HB1 := Lib.hid (hB.out.alloc (by have := hB.out.size; have := HB.out.size; omega) (.cells #[.int .i64 x.f0, .string x.f1, .slice (some ae) x.f2.length c2, .slice A3 x.f3.length c3, .slice A4 x.f4.length c4] 64))
        have HK1 := Lib.hid (hK.out.alloc (.cells #[.int .i64 x.f0, .string x.f1, .slice (some ae) x.f2.length c2, .slice A3 x.f3.length c3, .slice A4 x.f4.length c4] 64))
        clear hbx
        go_wp2_with fail
        have hS : (fun W => S5 wr.heap.size x (some ae) c2 A3 c3 A4 c4 W ∧ ECells ae y yA yc W ∧ ECells ⟨ae.block, ae.off + 5, none⟩ u uA uc W) (wr.alloc (.cells #[.int .i64 x.f0, .string x.f1, .slice (some ae) x.f2.length c2, .slice A3 x.f3.length c3, .slice A4 x.f4.length c4] 64)).drew := MK.out _ HW1.out (HB.out.trans HB1.out).drew
        refine Rg.region_steps (S := (fun W => S5 wr.heap.size x (some ae) c2 A3 c3 A4 c4 W ∧ ECells ae y yA yc W ∧ ECells ⟨ae.block, ae.off + 5, none⟩ u uA uc W)) [.any 0, .any 1, .take 2, .any 3, .take 4, .any 5, .take 6, .any 8, .take 9, .any 10, .take 11, .one 7, .one 12, .one 13, .one 14] (by kernel_rfl) (by kernel_rfl) hS ?_
        refine Rg.p 83 ?_ ?_ rfl rfl (fun _ _ _ h => h) (by rfl) ?_ ?_ ?_; rotate_left 2; (intro w'; go_simp; with_reducible rfl); (simp only [Rg.pq, Rg.pz, Rg.ps]; rfl)
        refine Rg.p 84 ?_ ?_ rfl rfl (fun _ _ _ h => h) (by rfl) ?_ ?_ ?_; rotate_left 2; (intro w'; go_simp; with_reducible rfl); (simp only [Rg.pq, Rg.pz, Rg.ps]; rfl)
        refine Rg.t 85 ?_ ?_ rfl rfl (fun _ _ _ h => h) (by assumption) (by rfl) ?_ ?_ ?_; rotate_left 2; (rintro w' ⟨⟨s0, s1, s2, s3, s4⟩, ⟨y0, y1, y2, y3, y4⟩, ⟨u0, u1, u2, u3, u4⟩⟩; go_simp; with_reducible rfl); (simp only [Rg.pq, Rg.pz, Rg.ps]; rfl)
        refine Rg.p 86 ?_ ?_ rfl rfl (fun _ _ _ h => h) (by rfl) ?_ ?_ ?_; rotate_left 2; (intro w'; go_simp; with_reducible rfl); (simp only [Rg.pq, Rg.pz, Rg.ps]; rfl)
        refine Rg.t 87 ?_ ?_ rfl rfl (fun _ _ _ h => h) (by assumption) (by rfl) ?_ ?_ ?_; rotate_left 2; (rintro w' ⟨⟨s0, s1, s2, s3, s4⟩, ⟨y0, y1, y2, y3, y4⟩, ⟨u0, u1, u2, u3, u4⟩⟩; go_simp; with_reducible rfl); (simp only [Rg.pq, Rg.pz, Rg.ps]; rfl)
        refine Rg.p 88 ?_ ?_ rfl rfl (fun _ _ _ h => h) (by rfl) ?_ ?_ ?_; rotate_left 2; (intro w'; go_simp; with_reducible rfl); (simp only [Rg.pq, Rg.pz, Rg.ps]; rfl)
        refine Rg.t 89 ?_ ?_ rfl rfl (fun _ _ _ h => h) (by assumption) (by rfl) ?_ ?_ ?_; rotate_left 2; (rintro w' ⟨⟨s0, s1, s2, s3, s4⟩, ⟨y0, y1, y2, y3, y4⟩, ⟨u0, u1, u2, u3, u4⟩⟩; go_simp; with_reducible rfl); (simp only [Rg.pq, Rg.pz, Rg.ps]; rfl)
        refine Rg.p 91 ?_ ?_ rfl rfl (fun _ _ _ h => h) (by rfl) ?_ ?_ ?_; rotate_left 2; (intro w'; go_simp; with_reducible rfl); (simp only [Rg.pq, Rg.pz, Rg.ps]; rfl)
        refine Rg.t 92 ?_ ?_ rfl rfl (fun _ _ _ h => h) (by assumption) (by rfl) ?_ ?_ ?_; rotate_left 2; (rintro w' ⟨⟨s0, s1, s2, s3, s4⟩, ⟨y0, y1, y2, y3, y4⟩, ⟨u0, u1, u2, u3, u4⟩⟩; go_simp; with_reducible rfl); (simp only [Rg.pq, Rg.pz, Rg.ps]; rfl)
        refine Rg.p 93 ?_ ?_ rfl rfl (fun _ _ _ h => h) (by rfl) ?_ ?_ ?_; rotate_left 2; (intro w'; go_simp; with_reducible rfl); (simp only [Rg.pq, Rg.pz, Rg.ps]; rfl)
        refine Rg.t 94 ?_ ?_ rfl rfl (fun _ _ _ h => h) (by assumption) (by rfl) ?_ ?_ ?_; rotate_left 2; (rintro w' ⟨⟨s0, s1, s2, s3, s4⟩, ⟨y0, y1, y2, y3, y4⟩, ⟨u0, u1, u2, u3, u4⟩⟩; go_simp; with_reducible rfl); (simp only [Rg.pq, Rg.pz, Rg.ps]; rfl)
        refine Rg.s_call (N := some 90) rfl rfl Tryd.func65 (by kernel_rfl) rfl #[.agg #[.int .i64 y.f0, .int .i64 y.f1, .int .u64 y.f2, .string y.f3, .slice yA y.f4.length yc]] (by rfl) rfl (by (try simp only [List.map_toArray, List.map_cons, List.map_nil]); first | done | rfl) ?_
        refine (yH.out.2.2 yA yc _ (HI.out.1.below (HB.out.trans HB1.out).drew) (Kd.C_below yH.out.2.1 (HB.out.trans HB1.out).drew) yH.out.1).mono ?_
        rintro e w2 ⟨rfl, hc⟩
        have HW2 := Lib.hid (show SBox wr.heap.size x (some ae) c2 A3 c3 A4 c4 w2 from Blk.below (w := (wr.alloc (.cells #[.int .i64 x.f0, .string x.f1, .slice (some ae) x.f2.length c2, .slice A3 x.f3.length c3, .slice A4 x.f4.length c4] 64)).drew) HW1.out hc (Blk.lt HW1.out))
        have HP2 := Lib.hid (IsPage.below (w := (wr.alloc (.cells #[.int .i64 x.f0, .string x.f1, .slice (some ae) x.f2.length c2, .slice A3 x.f3.length c3, .slice A4 x.f4.length c4] 64)).drew) HP1.out hc)
        have HB2 := Lib.hid (below_next (w1 := (wr.alloc (.cells #[.int .i64 x.f0, .string x.f1, .slice (some ae) x.f2.length c2, .slice A3 x.f3.length c3, .slice A4 x.f4.length c4] 64)).drew) HB1.out.drew (by have := HB.out.size; have := HB1.out.size; omega) hc)
        have HK2 := Lib.hid (HK1.out.trans (kept_of_below (w := (wr.alloc (.cells #[.int .i64 x.f0, .string x.f1, .slice (some ae) x.f2.length c2, .slice A3 x.f3.length c3, .slice A4 x.f4.length c4] 64)).drew) hc))
        have hS2 := MK.out _ HW2.out (HB.out.trans HB2.out)
        clear hS hc
        refine ⟨hS2, ?_⟩
        refine Rg.s_norm (a' := ?_) ?_ ?_; rotate_left; (simp only [Act.put, List.setIfInBounds_toArray, List.set_cons_zero, List.set_cons_succ]; rfl)
        refine Rg.s_call (N := some 95) rfl rfl Tryd.func65 (by kernel_rfl) rfl #[.agg #[.int .i64 u.f0, .int .i64 u.f1, .int .u64 u.f2, .string u.f3, .slice uA u.f4.length uc]] (by rfl) rfl (by (try simp only [List.map_toArray, List.map_cons, List.map_nil]); first | done | rfl) ?_
        refine (uH.out.2.2 uA uc _ (HI.out.1.below (HB.out.trans HB2.out)) (Kd.C_below uH.out.2.1 (HB.out.trans HB2.out)) uH.out.1).mono ?_
        rintro e w3 ⟨rfl, hc⟩
        have HW3 := Lib.hid (show SBox wr.heap.size x (some ae) c2 A3 c3 A4 c4 w3 from Blk.below (w := w2) HW2.out hc (Blk.lt HW2.out))
        have HP3 := Lib.hid (IsPage.below (w := w2) HP2.out hc)
        have HB3 := Lib.hid (below_next (w1 := w2) HB2.out (by have := HB.out.size; have := HB2.out.size; omega) hc)
        have HK3 := Lib.hid (HK2.out.trans (kept_of_below (w := w2) hc))
        have hS3 := MK.out _ HW3.out (HB.out.trans HB3.out)
        clear hS2 hc
        refine ⟨hS3, ?_⟩
        refine Rg.s_norm (a' := ?_) ?_ ?_; rotate_left; (simp only [Act.put, List.setIfInBounds_toArray, List.set_cons_zero, List.set_cons_succ]; rfl)
        have HA := Lib.hid (Blk.alloc_new w3 [.string ⟨#[102, 111, 114, 32]⟩, .string x.f1, .string ⟨#[32, 61, 32]⟩, .string yt, .string ⟨#[32, 116, 111, 32]⟩, .string ut, .string ⟨#[32, 123]⟩] 9)
        have HW4 := Lib.hid (show SBox wr.heap.size x (some ae) c2 A3 c3 A4 c4 (w3.alloc (.cells #[.string ⟨#[102, 111, 114, 32]⟩, .string x.f1, .string ⟨#[32, 61, 32]⟩, .string yt, .string ⟨#[32, 116, 111, 32]⟩, .string ut, .string ⟨#[32, 123]⟩] 9)) from Blk.alloc HW3.out _)
        have HP4 := Lib.hid (IsPage.below (w := w3) HP3.out ((Below.refl w3.heap.size w3).alloc (Nat.le_refl _) (.cells #[.string ⟨#[102, 111, 114, 32]⟩, .string x.f1, .string ⟨#[32, 61, 32]⟩, .string yt, .string ⟨#[32, 116, 111, 32]⟩, .string ut, .string ⟨#[32, 123]⟩] 9)))
        have HB4 := Lib.hid (HB3.out.alloc (by have := HB.out.size; have := HB3.out.size; omega) (.cells #[.string ⟨#[102, 111, 114, 32]⟩, .string x.f1, .string ⟨#[32, 61, 32]⟩, .string yt, .string ⟨#[32, 116, 111, 32]⟩, .string ut, .string ⟨#[32, 123]⟩] 9))
        have HK4 := Lib.hid (HK3.out.alloc (.cells #[.string ⟨#[102, 111, 114, 32]⟩, .string x.f1, .string ⟨#[32, 61, 32]⟩, .string yt, .string ⟨#[32, 116, 111, 32]⟩, .string ut, .string ⟨#[32, 123]⟩] 9))
        have hS4 := MK.out _ HW4.out (HB.out.trans HB4.out)
        clear hS3
        refine Rg.s_value (N := some 96) (a' := ?_) rfl rfl (by rfl) (by go_simp; rfl) hS4 ?_ ?_; rotate_left; (simp only [Act.put, List.setIfInBounds_toArray, List.set_cons_zero, List.set_cons_succ]; rfl)
        refine Rg.s_call (N := some 97) rfl rfl Tryd.func39 (by kernel_rfl) rfl #[.pointer (some ⟨b, 0, none⟩), .slice (some ⟨w3.heap.size, 0, none⟩) 7 7] (by rfl) rfl (by (try simp only [List.map_toArray, List.map_cons, List.map_nil]); first | done | rfl) ?_
        refine (line_calls w0.heap.size b _ m (by omega) _ HP4.out [⟨#[102, 111, 114, 32]⟩, x.f1, ⟨#[32, 61, 32]⟩, yt, ⟨#[32, 116, 111, 32]⟩, ut, ⟨#[32, 123]⟩] w3.heap.size 7 9 HA.out (by decide) (by have := HP3.out.lt; omega) (by simp) (by have := HZ3.out; simp only [List.length_append] at this ⊢; omega) (by have := HB.out.size; have := HB4.out.size; omega)).mono ?_
        rintro e w5 ⟨rfl, hp, hb, hk⟩
        have HW5 := Lib.hid (show SBox wr.heap.size x (some ae) c2 A3 c3 A4 c4 w5 from Blk.kept HW4.out hk (by have := hP.out.lt; omega) (by decide))
        have HP5 := Lib.hid hp
        have HB5 := Lib.hid (HB4.out.trans hb)
        have HK5 := Lib.hid (HK4.out.trans hk)
        have hS5 := MK.out _ HW5.out (HB.out.trans HB5.out)
        clear hS4 hp hb hk
        refine ⟨hS5, ?_⟩
        refine Rg.s_norm (a' := ?_) ?_ ?_; rotate_left; (simp only [Act.put, List.setIfInBounds_toArray, List.set_cons_zero, List.set_cons_succ]; rfl)
        refine Rg.s_done ?_
        clear hS5
        obtain ⟨⟨s0, s1, s2, s3, s4⟩, ⟨y0, y1, y2, y3, y4⟩, ⟨u0, u1, u2, u3, u4⟩⟩ := MK.out _ HW5.out (HB.out.trans HB5.out)
        go_wp2_with fail
        refine (HJ.out w0 HI.out.1 x.f3 (by cases HN.out.2.2; assumption) HN.out.1.then_ (by cases HN.out.2.2; assumption) A3 c3 HL.out.2.2.2.1 HL.out.2.1 b _ m (by omega) w5 (HB.out.trans HB5.out) HP5.out (by have := HZ3.out; simp only [List.length_append] at this ⊢; omega)).mono ?_
        rintro e w6 ⟨rfl, hp, hb, hk⟩
        clear s0 s1 s2 s3 s4 y0 y1 y2 y3 y4 u0 u1 u2 u3 u4
        have HW6 := Lib.hid (show SBox wr.heap.size x (some ae) c2 A3 c3 A4 c4 w6 from Blk.kept HW5.out hk (by have := hP.out.lt; omega) (by decide))
        have HP6 := Lib.hid hp
        have HB6 := Lib.hid (HB5.out.trans hb)
        have HK6 := Lib.hid (HK5.out.trans hk)
        clear hp hb hk
        have HA := Lib.hid (Blk.alloc_new w6 [.string ⟨#[125]⟩] 9)
        have HW7 := Lib.hid (show SBox wr.heap.size x (some ae) c2 A3 c3 A4 c4 (w6.alloc (.cells #[.string ⟨#[125]⟩] 9)) from Blk.alloc HW6.out _)
        have HP7 := Lib.hid (IsPage.below (w := w6) HP6.out ((Below.refl w6.heap.size w6).alloc (Nat.le_refl _) (.cells #[.string ⟨#[125]⟩] 9)))
        have HB7 := Lib.hid (HB6.out.alloc (by have := HB.out.size; have := HB6.out.size; omega) (.cells #[.string ⟨#[125]⟩] 9))
        have HK7 := Lib.hid (HK6.out.alloc (.cells #[.string ⟨#[125]⟩] 9))
        go_wp2_with fail
        refine (line_calls w0.heap.size b _ m (by omega) _ HP7.out [⟨#[125]⟩] w6.heap.size 1 9 HA.out (by decide) (by have := HP6.out.lt; omega) (by simp) (by have := HZ3.out; simp only [List.length_append] at this ⊢; omega) (by have := HB.out.size; have := HB7.out.size; omega)).mono ?_
        rintro e w8 ⟨rfl, hp, hb, hk⟩
        have HW8 := Lib.hid (show SBox wr.heap.size x (some ae) c2 A3 c3 A4 c4 w8 from Blk.kept HW7.out hk (by have := hP.out.lt; omega) (by decide))
        have HP8 := Lib.hid hp
        have HB8 := Lib.hid (HB7.out.trans hb)
        have HK8 := Lib.hid (HK7.out.trans hk)
        clear hp hb hk HA
        go_wp2_with fail
        go_roundw
        case rel =>
          refine ⟨k + 1, by omega, by go_num, ?_, HB8, HK8⟩
          rw [flat_take2 l k x HX.out.1, ← List.append_assoc]
          rw [HX.out.2]
          refine Lib.hid ?_
          simpa only [List.append_assoc] using HP8.out
        case measure => simp [intOf]; omega
      ·
        have hlen2 : 1 ≤ x.f2.length := by have := hN.len; rw [hf] at this; simp [partsN] at this; omega
        obtain ⟨ae, rfl⟩ := some_addr hC2 (by omega)
        obtain ⟨yA, yc, yE, yl, yC⟩ := kid_at hC2 0 (kidS_mem (x := x) (i := 0) (by omega)).1
        rw [add_zero] at yE
        have yT := text_calls n' (by omega) (kidS x 0) (hk2 _ (kidS_mem (x := x) (i := 0) (by omega)).2) (hN.kids _ (kidS_mem (x := x) (i := 0) (by omega)).2)
        have my : (0 : Int) < (x.f2.length : Int) := by omega
        have ny : 0 < x.f2.length := by omega
        have hst : stT (n' + 1) m x = lineT m [⟨#[111, 117, 116, 32]⟩, txt n' (kidS x 0), ⟨#[59]⟩] := by unfold stT; simp only [hf]; rfl
        have hz3 := hz2
        rw [hst] at hz3
        have HX := Lib.hid (And.intro hs hst)
        have HZ3 := Lib.hid hz3
        clear hst hz2 hz3
        have e1 : (x.f0 == 1) = false := by rw [hf]; rfl
        have e2 : (x.f0 == 2) = false := by rw [hf]; rfl
        have e5 : (x.f0 == 5) = true := by rw [hf]; rfl
        generalize kidS x 0 = y at yE yl yC yT HX HZ3
        generalize txt n' y = yt at yT HX HZ3
        have yH := Lib.hid (And.intro yl (And.intro yC yT))
        have HN := Lib.hid (And.intro hN (And.intro hf hO5))
        clear hs hN hf hO5 hC2 yl yC yT
        have mk : ∀ W, SBox wr.heap.size x (some ae) c2 A3 c3 A4 c4 W → Below w0.heap.size w0 W → (fun W => S5 wr.heap.size x (some ae) c2 A3 c3 A4 c4 W ∧ ECells ae y yA yc W) W := fun W h1 h2 => ⟨h1.cells, yE.below h2⟩
        have MK := Lib.hid mk
        clear mk
        have hbx : SBox wr.heap.size x (some ae) c2 A3 c3 A4 c4 (wr.alloc (.cells #[.int .i64 x.f0, .string x.f1, .slice (some ae) x.f2.length c2, .slice A3 x.f3.length c3, .slice A4 x.f4.length c4] 64)) := Blk.alloc_new wr _ _
        have HW1 := Lib.hid hbx
        have HP1 := Lib.hid (hP.out.below ((Below.refl wr.heap.size wr).alloc (Nat.le_refl _) (.cells #[.int .i64 x.f0, .string x.f1, .slice (some ae) x.f2.length c2, .slice A3 x.f3.length c3, .slice A4 x.f4.length c4] 64)))
        have HB1 := Lib.hid (hB.out.alloc (by have := hB.out.size; have := HB.out.size; omega) (.cells #[.int .i64 x.f0, .string x.f1, .slice (some ae) x.f2.length c2, .slice A3 x.f3.length c3, .slice A4 x.f4.length c4] 64))
        have HK1 := Lib.hid (hK.out.alloc (.cells #[.int .i64 x.f0, .string x.f1, .slice (some ae) x.f2.length c2, .slice A3 x.f3.length c3, .slice A4 x.f4.length c4] 64))
        clear hbx
        obtain ⟨⟨s0, s1, s2, s3, s4⟩, ⟨y0, y1, y2, y3, y4⟩⟩ := MK.out _ HW1.out (HB.out.trans HB1.out)
        go_wp2_with fail
        refine (yH.out.2.2 yA yc _ (HI.out.1.below (HB.out.trans HB1.out)) (Kd.C_below yH.out.2.1 (HB.out.trans HB1.out)) yH.out.1).mono ?_
        rintro e w2 ⟨rfl, hc⟩
        have HW2 := Lib.hid (show SBox wr.heap.size x (some ae) c2 A3 c3 A4 c4 w2 from Blk.below (w := (wr.alloc (.cells #[.int .i64 x.f0, .string x.f1, .slice (some ae) x.f2.length c2, .slice A3 x.f3.length c3, .slice A4 x.f4.length c4] 64))) HW1.out hc (Blk.lt HW1.out))
        have HP2 := Lib.hid (IsPage.below (w := (wr.alloc (.cells #[.int .i64 x.f0, .string x.f1, .slice (some ae) x.f2.length c2, .slice A3 x.f3.length c3, .slice A4 x.f4.length c4] 64))) HP1.out hc)
        have HB2 := Lib.hid (below_next (w1 := (wr.alloc (.cells #[.int .i64 x.f0, .string x.f1, .slice (some ae) x.f2.length c2, .slice A3 x.f3.length c3, .slice A4 x.f4.length c4] 64))) HB1.out (by have := HB.out.size; have := HB1.out.size; omega) hc)
        have HK2 := Lib.hid (HK1.out.trans (kept_of_below (w := (wr.alloc (.cells #[.int .i64 x.f0, .string x.f1, .slice (some ae) x.f2.length c2, .slice A3 x.f3.length c3, .slice A4 x.f4.length c4] 64))) hc))
        clear hc
        clear s0 s1 s2 s3 s4 y0 y1 y2 y3 y4
        have HA := Lib.hid (Blk.alloc_new w2 [.string ⟨#[111, 117, 116, 32]⟩, .string yt, .string ⟨#[59]⟩] 9)
        have HW3 := Lib.hid (show SBox wr.heap.size x (some ae) c2 A3 c3 A4 c4 (w2.alloc (.cells #[.string ⟨#[111, 117, 116, 32]⟩, .string yt, .string ⟨#[59]⟩] 9)) from Blk.alloc HW2.out _)
        have HP3 := Lib.hid (IsPage.below (w := w2) HP2.out ((Below.refl w2.heap.size w2).alloc (Nat.le_refl _) (.cells #[.string ⟨#[111, 117, 116, 32]⟩, .string yt, .string ⟨#[59]⟩] 9)))
        have HB3 := Lib.hid (HB2.out.alloc (by have := HB.out.size; have := HB2.out.size; omega) (.cells #[.string ⟨#[111, 117, 116, 32]⟩, .string yt, .string ⟨#[59]⟩] 9))
        have HK3 := Lib.hid (HK2.out.alloc (.cells #[.string ⟨#[111, 117, 116, 32]⟩, .string yt, .string ⟨#[59]⟩] 9))
        go_wp2_with fail
        refine (line_calls w0.heap.size b _ m (by omega) _ HP3.out [⟨#[111, 117, 116, 32]⟩, yt, ⟨#[59]⟩] w2.heap.size 3 9 HA.out (by decide) (by have := HP2.out.lt; omega) (by simp) (by have := HZ3.out; simp only [List.length_append] at this ⊢; omega) (by have := HB.out.size; have := HB3.out.size; omega)).mono ?_
        rintro e w4 ⟨rfl, hp, hb, hk⟩
        have HW4 := Lib.hid (show SBox wr.heap.size x (some ae) c2 A3 c3 A4 c4 w4 from Blk.kept HW3.out hk (by have := hP.out.lt; omega) (by decide))
        have HP4 := Lib.hid hp
        have HB4 := Lib.hid (HB3.out.trans hb)
        have HK4 := Lib.hid (HK3.out.trans hk)
        clear hp hb hk HA
        go_wp2_with fail
        go_roundw
        case rel =>
          refine ⟨k + 1, by omega, by go_num, ?_, HB4, HK4⟩
          rw [flat_take2 l k x HX.out.1, ← List.append_assoc]
          rw [HX.out.2]
          exact HP4.out
        case measure => simp [intOf]; omega
    · go_wp2_with fail
      go_end0
      exact ⟨rfl, by have := hP.out; rwa [List.take_of_length_le (by omega)] at this, hB.out, hK.out⟩
theorem stmts_calls : ∀ (n : Nat), n ≤ 25 → IHs n
  | 0, h => stmts_step 0 h (fun n' e => by omega)
  | n + 1, h => stmts_step (n + 1) h (fun n' e => inner_calls_ (by obtain rfl : n' = n := by omega
                                                                   exact stmts_calls n' (by omega)))
end Go.Proofs.YtlhnfgnihakcfaaDoor.Ax
