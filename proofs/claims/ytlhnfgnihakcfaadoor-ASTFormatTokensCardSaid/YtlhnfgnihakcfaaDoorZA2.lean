import Derived.Test.YtlhnfgnihakcfaaDoorZA1
import Derived.Test.YtlhnfgnihakcfaaDoorZLx
set_option linter.unusedSimpArgs false
set_option linter.unusedVariables false
namespace Go.Proofs.YtlhnfgnihakcfaaDoor.Ax
open Go.RowKit Hp Kn Lx
open Go.Proofs.YtlhnfgnihakcfaaDoorW.PrintWords Go.Proofs.YtlhnfgnihakcfaaDoorW.PrintLast Go.Proofs.YtlhnfgnihakcfaaDoorW.PrintMore
def kindOk (x : S40) : Bool := if x.f0 = 1 then decide (x.f2 ≤ 1152921504606846975) else if x.f0 = 2 ∨ x.f0 = 3 then Px.isName x.f3.data.toList else if x.f0 = 4 then decide (1 ≤ x.f1) && decide (x.f1 ≤ 7) else true
def shapeOk (x : S40) : Bool := known x.f0 && bareOp x == x.f1 && bareNum x == x.f2 && (bareName x).toList == x.f3.toList && (x.f4.length : Int) == kidsN x.f0
def exprB : Nat → S40 → Bool
  | 0, _ => false
  | n + 1, x => shapeOk x && kindOk x && x.f4.all (exprB n)
def Cells (g0 g1 g2 : Nat) (x : S40) (A : Option Addr) (c : Nat) (level : Int) (W : World) : Prop :=
  W.cell? ⟨g0, 0, none⟩ = some (.int .i64 x.f0) ∧ W.cell? ⟨g0, 1, none⟩ = some (.int .i64 x.f1) ∧ W.cell? ⟨g0, 2, none⟩ = some (.int .u64 x.f2) ∧ W.cell? ⟨g0, 3, none⟩ = some (.string x.f3) ∧ W.cell? ⟨g0, 4, none⟩ = some (.slice A x.f4.length c) ∧
  W.cell? ⟨g1, 0, none⟩ = some (.int .i64 level) ∧ W.cell? ⟨g2, 1, none⟩ = some (.int .i64 (bareOp x)) ∧ W.cell? ⟨g2, 2, none⟩ = some (.int .u64 (bareNum x)) ∧ W.cell? ⟨g2, 3, none⟩ = some (.string (bareName x))
theorem Cells.mk {g0 g1 g2 : Nat} {x : S40} {A : Option Addr} {c : Nat} {level : Int} {W : World} {b0 b4 : Value} (h0 : Blk W g0 [.int .i64 x.f0, .int .i64 x.f1, .int .u64 x.f2, .string x.f3, .slice A x.f4.length c] 40) (h1 : Blk W g1 [.int .i64 level] 3) (h2 : Blk W g2 [b0, .int .i64 (bareOp x), .int .u64 (bareNum x), .string (bareName x), b4] 40) : Cells g0 g1 g2 x A c level W :=
  ⟨h0.cell 0 rfl, h0.cell 1 rfl, h0.cell 2 rfl, h0.cell 3 rfl, h0.cell 4 rfl, h1.cell 0 rfl, h2.cell 1 rfl, h2.cell 2 rfl, h2.cell 3 rfl⟩
theorem Cells.below {g0 g1 g2 : Nat} {x : S40} {A : Option Addr} {c : Nat} {level : Int} {W W2 : World} (h : Cells g0 g1 g2 x A c level W) (hb : Below W.heap.size W W2) : Cells g0 g1 g2 x A c level W2 := by
  obtain ⟨s0, s1, s2, s3, s4, s5, s6, s7, s8⟩ := h
  have k : ∀ (a : Addr) v, W.cell? a = some v → W2.cell? a = some v := fun a v h => (hb.cell (World.block_lt_of_cell? W _ h)).trans h
  exact ⟨k _ _ s0, k _ _ s1, k _ _ s2, k _ _ s3, k _ _ s4, k _ _ s5, k _ _ s6, k _ _ s7, k _ _ s8⟩
set_option maxRecDepth 100000 in
set_option maxHeartbeats 4000000 in
theorem expr_no0 (x : S40) (level : Int) (A : Option Addr) (c : Nat) (w : World) (hk : known x.f0 = false) :
    Calls Tryd.prog 80 #[exV A c x, .int .i64 level] w fun e w' => e = .returned (.bool false) ∧ Below w.heap.size w w' := by
  have HB := Lib.hid (Below.refl w.heap.size w)
  go_enter Tryd.func80, Tryd.ntmps80
  unfold exV
  go_wp2_with fail
  refine (bare_calls x A c _).mono ?_
  rintro e w1 ⟨rfl, hb⟩
  rw [hk]
  have b0 : Blk w1 w.heap.size [.int .i64 x.f0, .int .i64 x.f1, .int .u64 x.f2, .string x.f3, .slice A x.f4.length c] 40 := Blk.below (Blk.alloc (Blk.alloc_new w _ _) _) hb (by simp; omega)
  have b1 : Blk w1 (w.heap.size + 1) [.int .i64 level] 3 := Blk.below (second_new w _ [.int .i64 level] 3) hb (by simp)
  have hB1 : Below w.heap.size w w1 := below_next ((HB.out.alloc (Nat.le_refl _) _).alloc (by simp) _) (by simp) hb
  have hS : Cells w.heap.size (w.heap.size + 1) w1.heap.size x A c level ((w1.alloc (.cells #[.int .i64 x.f0, .int .i64 (bareOp x), .int .u64 (bareNum x), .string (bareName x), .slice none 0 0] 40)).drew) := Cells.mk ((b0.alloc _).drew) ((b1.alloc _).drew) (Blk.alloc_new w1 _ _).drew
  have hlt0 : w.heap.size < w1.heap.size := b0.lt
  clear hb HB b0 b1
  go_wp2_with fail
  refine Rg.region_steps (S := Cells w.heap.size (w.heap.size + 1) w1.heap.size x A c level) [.any 0, .any 1, .any 2, .take 3, .any 4, .any 5, .any 6, .any 7, .take 8, .any 9, .take 10, .any 11, .any 12, .any 13, .any 14, .take 15, .any 16, .take 17, .any 18, .any 19, .any 20, .any 21, .take 22, .any 23, .take 24, .any 25, .any 26, .any 27, .any 28, .take 29, .any 30, .any 31, .take 32, .any 33, .any 34, .any 35] (by kernel_rfl) (by kernel_rfl) hS ?_
  refine Rg.p 12 ?_ ?_ rfl rfl (fun _ _ _ h => h) (by rfl) ?_ ?_ ?_; rotate_left 2; (intro w'; go_simp; with_reducible rfl); (simp only [Rg.pq, Rg.pz, Rg.ps]; rfl)
  refine Rg.p 13 ?_ ?_ rfl rfl (fun _ _ _ h => h) (by rfl) ?_ ?_ ?_; rotate_left 2; (intro w'; go_simp; with_reducible rfl); (simp only [Rg.pq, Rg.pz, Rg.ps]; rfl)
  refine Rg.p 14 ?_ ?_ rfl rfl (fun _ _ _ h => h) (by rfl) ?_ ?_ ?_; rotate_left 2; (intro w'; go_simp; with_reducible rfl); (simp only [Rg.pq, Rg.pz, Rg.ps]; rfl)
  refine Rg.s_takeOff (N := some 15) (a' := ?_) rfl rfl (fun _ _ _ h => h) (by assumption) (by rfl) ?_ ?_; rotate_left; (simp only [Act.put, List.setIfInBounds_toArray, List.set_cons_zero, List.set_cons_succ]; rfl)
  refine Rg.s_off (N := some 16) (a' := ?_) rfl rfl (fun _ _ _ h => h) (by rfl) ?_ ?_; rotate_left; (simp only [Act.put, List.setIfInBounds_toArray, List.set_cons_zero, List.set_cons_succ]; rfl)
  refine Rg.p 17 ?_ ?_ rfl rfl (fun _ _ _ h => h) (by rfl) ?_ ?_ ?_; rotate_left 2; (intro w'; go_simp; with_reducible rfl); (simp only [Rg.pq, Rg.pz, Rg.ps]; rfl)
  refine Rg.p 18 ?_ ?_ rfl rfl (fun _ _ _ h => h) (by rfl) ?_ ?_ ?_; rotate_left 2; (intro w'; go_simp; with_reducible rfl); (simp only [Rg.pq, Rg.pz, Rg.ps]; rfl)
  refine Rg.s_off (N := some 19) (a' := ?_) rfl rfl (fun _ _ _ h => h) (by rfl) ?_ ?_; rotate_left; (simp only [Act.put, List.setIfInBounds_toArray, List.set_cons_zero, List.set_cons_succ]; rfl)
  refine Rg.s_takeOff (N := some 20) (a' := ?_) rfl rfl (fun _ _ _ h => h) (by assumption) (by rfl) ?_ ?_; rotate_left; (simp only [Act.put, List.setIfInBounds_toArray, List.set_cons_zero, List.set_cons_succ]; rfl)
  refine Rg.s_off (N := some 21) (a' := ?_) rfl rfl (fun _ _ _ h => h) (by rfl) ?_ ?_; rotate_left; (simp only [Act.put, List.setIfInBounds_toArray, List.set_cons_zero, List.set_cons_succ]; rfl)
  refine Rg.s_takeOff (N := some 22) (a' := ?_) rfl rfl (fun _ _ _ h => h) (by assumption) (by rfl) ?_ ?_; rotate_left; (simp only [Act.put, List.setIfInBounds_toArray, List.set_cons_zero, List.set_cons_succ]; rfl)
  refine Rg.s_off (N := some 23) (a' := ?_) rfl rfl (fun _ _ _ h => h) (by rfl) ?_ ?_; rotate_left; (simp only [Act.put, List.setIfInBounds_toArray, List.set_cons_zero, List.set_cons_succ]; rfl)
  refine Rg.p 24 ?_ ?_ rfl rfl (fun _ _ _ h => h) (by rfl) ?_ ?_ ?_; rotate_left 2; (intro w'; go_simp; with_reducible rfl); (simp only [Rg.pq, Rg.pz, Rg.ps]; rfl)
  refine Rg.p 25 ?_ ?_ rfl rfl (fun _ _ _ h => h) (by rfl) ?_ ?_ ?_; rotate_left 2; (intro w'; go_simp; with_reducible rfl); (simp only [Rg.pq, Rg.pz, Rg.ps]; rfl)
  refine Rg.s_off (N := some 26) (a' := ?_) rfl rfl (fun _ _ _ h => h) (by rfl) ?_ ?_; rotate_left; (simp only [Act.put, List.setIfInBounds_toArray, List.set_cons_zero, List.set_cons_succ]; rfl)
  refine Rg.s_takeOff (N := some 27) (a' := ?_) rfl rfl (fun _ _ _ h => h) (by assumption) (by rfl) ?_ ?_; rotate_left; (simp only [Act.put, List.setIfInBounds_toArray, List.set_cons_zero, List.set_cons_succ]; rfl)
  refine Rg.s_off (N := some 28) (a' := ?_) rfl rfl (fun _ _ _ h => h) (by rfl) ?_ ?_; rotate_left; (simp only [Act.put, List.setIfInBounds_toArray, List.set_cons_zero, List.set_cons_succ]; rfl)
  refine Rg.s_takeOff (N := some 29) (a' := ?_) rfl rfl (fun _ _ _ h => h) (by assumption) (by rfl) ?_ ?_; rotate_left; (simp only [Act.put, List.setIfInBounds_toArray, List.set_cons_zero, List.set_cons_succ]; rfl)
  refine Rg.s_off (N := some 30) (a' := ?_) rfl rfl (fun _ _ _ h => h) (by rfl) ?_ ?_; rotate_left; (simp only [Act.put, List.setIfInBounds_toArray, List.set_cons_zero, List.set_cons_succ]; rfl)
  refine Rg.p 31 ?_ ?_ rfl rfl (fun _ _ _ h => h) (by rfl) ?_ ?_ ?_; rotate_left 2; (intro w'; go_simp; with_reducible rfl); (simp only [Rg.pq, Rg.pz, Rg.ps]; rfl)
  refine Rg.p 32 ?_ ?_ rfl rfl (fun _ _ _ h => h) (by rfl) ?_ ?_ ?_; rotate_left 2; (intro w'; go_simp; with_reducible rfl); (simp only [Rg.pq, Rg.pz, Rg.ps]; rfl)
  refine Rg.s_off (N := some 33) (a' := ?_) rfl rfl (fun _ _ _ h => h) (by rfl) ?_ ?_; rotate_left; (simp only [Act.put, List.setIfInBounds_toArray, List.set_cons_zero, List.set_cons_succ]; rfl)
  refine Rg.s_takeOff (N := some 34) (a' := ?_) rfl rfl (fun _ _ _ h => h) (by assumption) (by rfl) ?_ ?_; rotate_left; (simp only [Act.put, List.setIfInBounds_toArray, List.set_cons_zero, List.set_cons_succ]; rfl)
  refine Rg.s_off (N := some 35) (a' := ?_) rfl rfl (fun _ _ _ h => h) (by rfl) ?_ ?_; rotate_left; (simp only [Act.put, List.setIfInBounds_toArray, List.set_cons_zero, List.set_cons_succ]; rfl)
  refine Rg.s_takeOff (N := some 36) (a' := ?_) rfl rfl (fun _ _ _ h => h) (by assumption) (by rfl) ?_ ?_; rotate_left; (simp only [Act.put, List.setIfInBounds_toArray, List.set_cons_zero, List.set_cons_succ]; rfl)
  refine Rg.s_off (N := some 37) (a' := ?_) rfl rfl (fun _ _ _ h => h) (by rfl) ?_ ?_; rotate_left; (simp only [Act.put, List.setIfInBounds_toArray, List.set_cons_zero, List.set_cons_succ]; rfl)
  refine Rg.p 38 ?_ ?_ rfl rfl (fun _ _ _ h => h) (by rfl) ?_ ?_ ?_; rotate_left 2; (intro w'; go_simp; with_reducible rfl); (simp only [Rg.pq, Rg.pz, Rg.ps]; rfl)
  refine Rg.p 39 ?_ ?_ rfl rfl (fun _ _ _ h => h) (by rfl) ?_ ?_ ?_; rotate_left 2; (intro w'; go_simp; with_reducible rfl); (simp only [Rg.pq, Rg.pz, Rg.ps]; rfl)
  refine Rg.s_off (N := some 40) (a' := ?_) rfl rfl (fun _ _ _ h => h) (by rfl) ?_ ?_; rotate_left; (simp only [Act.put, List.setIfInBounds_toArray, List.set_cons_zero, List.set_cons_succ]; rfl)
  refine Rg.s_takeOff (N := some 41) (a' := ?_) rfl rfl (fun _ _ _ h => h) (by assumption) (by rfl) ?_ ?_; rotate_left; (simp only [Act.put, List.setIfInBounds_toArray, List.set_cons_zero, List.set_cons_succ]; rfl)
  refine Rg.s_off (N := some 42) (a' := ?_) rfl rfl (fun _ _ _ h => h) (by rfl) ?_ ?_; rotate_left; (simp only [Act.put, List.setIfInBounds_toArray, List.set_cons_zero, List.set_cons_succ]; rfl)
  refine Rg.s_off (N := some 43) (a' := ?_) rfl rfl (fun _ _ _ h => h) (by rfl) ?_ ?_; rotate_left; (simp only [Act.put, List.setIfInBounds_toArray, List.set_cons_zero, List.set_cons_succ]; rfl)
  refine Rg.s_takeOff (N := some 44) (a' := ?_) rfl rfl (fun _ _ _ h => h) (by assumption) (by rfl) ?_ ?_; rotate_left; (simp only [Act.put, List.setIfInBounds_toArray, List.set_cons_zero, List.set_cons_succ]; rfl)
  refine Rg.s_off (N := some 45) (a' := ?_) rfl rfl (fun _ _ _ h => h) (by rfl) ?_ ?_; rotate_left; (simp only [Act.put, List.setIfInBounds_toArray, List.set_cons_zero, List.set_cons_succ]; rfl)
  refine Rg.s_off (N := some 46) (a' := ?_) rfl rfl (fun _ _ _ h => h) (by rfl) ?_ ?_; rotate_left; (simp only [Act.put, List.setIfInBounds_toArray, List.set_cons_zero, List.set_cons_succ]; rfl)
  refine Rg.p 47 ?_ ?_ rfl rfl (fun _ _ _ h => h) (by rfl) ?_ ?_ ?_; rotate_left 2; (intro w'; go_simp; with_reducible rfl); (simp only [Rg.pq, Rg.pz, Rg.ps]; rfl)
  refine Rg.s_done ?_
  go_wp2_with fail
  go_ret
  exact ⟨rfl, (hB1.alloc hB1.size _).drew⟩
set_option maxRecDepth 100000 in
set_option maxHeartbeats 4000000 in
theorem expr_no1 (x : S40) (level : Int) (A : Option Addr) (c : Nat) (w : World) (hk : known x.f0 = true) (h1 : decide (24 < level) = true) :
    Calls Tryd.prog 80 #[exV A c x, .int .i64 level] w fun e w' => e = .returned (.bool false) ∧ Below w.heap.size w w' := by
  have HB := Lib.hid (Below.refl w.heap.size w)
  go_enter Tryd.func80, Tryd.ntmps80
  unfold exV
  go_wp2_with fail
  refine (bare_calls x A c _).mono ?_
  rintro e w1 ⟨rfl, hb⟩
  rw [hk]
  have b0 : Blk w1 w.heap.size [.int .i64 x.f0, .int .i64 x.f1, .int .u64 x.f2, .string x.f3, .slice A x.f4.length c] 40 := Blk.below (Blk.alloc (Blk.alloc_new w _ _) _) hb (by simp; omega)
  have b1 : Blk w1 (w.heap.size + 1) [.int .i64 level] 3 := Blk.below (second_new w _ [.int .i64 level] 3) hb (by simp)
  have hB1 : Below w.heap.size w w1 := below_next ((HB.out.alloc (Nat.le_refl _) _).alloc (by simp) _) (by simp) hb
  have hS : Cells w.heap.size (w.heap.size + 1) w1.heap.size x A c level ((w1.alloc (.cells #[.int .i64 x.f0, .int .i64 (bareOp x), .int .u64 (bareNum x), .string (bareName x), .slice none 0 0] 40)).drew) := Cells.mk ((b0.alloc _).drew) ((b1.alloc _).drew) (Blk.alloc_new w1 _ _).drew
  have hlt0 : w.heap.size < w1.heap.size := b0.lt
  clear hb HB b0 b1
  go_wp2_with fail
  refine Rg.region_steps (S := Cells w.heap.size (w.heap.size + 1) w1.heap.size x A c level) [.any 0, .any 1, .any 2, .take 3, .any 4, .any 5, .any 6, .any 7, .take 8, .any 9, .take 10, .any 11, .any 12, .any 13, .any 14, .take 15, .any 16, .take 17, .any 18, .any 19, .any 20, .any 21, .take 22, .any 23, .take 24, .any 25, .any 26, .any 27, .any 28, .take 29, .any 30, .any 31, .take 32, .any 33, .any 34, .any 35] (by kernel_rfl) (by kernel_rfl) hS ?_
  refine Rg.p 12 ?_ ?_ rfl rfl (fun _ _ _ h => h) (by rfl) ?_ ?_ ?_; rotate_left 2; (intro w'; go_simp; with_reducible rfl); (simp only [Rg.pq, Rg.pz, Rg.ps]; rfl)
  refine Rg.p 13 ?_ ?_ rfl rfl (fun _ _ _ h => h) (by rfl) ?_ ?_ ?_; rotate_left 2; (intro w'; go_simp; with_reducible rfl); (simp only [Rg.pq, Rg.pz, Rg.ps]; rfl)
  refine Rg.p 14 ?_ ?_ rfl rfl (fun _ _ _ h => h) (by rfl) ?_ ?_ ?_; rotate_left 2; (intro w'; go_simp; with_reducible rfl); (simp only [Rg.pq, Rg.pz, Rg.ps]; rfl)
  refine Rg.t 15 ?_ ?_ rfl rfl (fun _ _ _ h => h) (by assumption) (by rfl) ?_ ?_ ?_; rotate_left 2; (rintro w' ⟨s0, s1, s2, s3, s4, s5, s6, s7, s8⟩; go_simp; with_reducible rfl); (simp only [Rg.pq, Rg.pz, Rg.ps]; rfl)
  refine Rg.p 16 ?_ ?_ rfl rfl (fun _ _ _ h => h) (by rfl) ?_ ?_ ?_; rotate_left 2; (intro w'; go_simp; with_reducible rfl); (simp only [Rg.pq, Rg.pz, Rg.ps]; rfl)
  refine Rg.p 17 ?_ ?_ rfl rfl (fun _ _ _ h => h) (by rfl) ?_ ?_ ?_; rotate_left 2; (intro w'; go_simp; with_reducible rfl); (simp only [Rg.pq, Rg.pz, Rg.ps]; rfl)
  refine Rg.p 18 ?_ ?_ rfl rfl (fun _ _ _ h => h) (by rfl) ?_ ?_ ?_; rotate_left 2; (intro w'; go_simp; with_reducible rfl); (simp only [Rg.pq, Rg.pz, Rg.ps]; rfl)
  refine Rg.s_off (N := some 19) (a' := ?_) rfl rfl (fun _ _ _ h => h) (by rfl) ?_ ?_; rotate_left; (simp only [Act.put, List.setIfInBounds_toArray, List.set_cons_zero, List.set_cons_succ]; rfl)
  refine Rg.s_takeOff (N := some 20) (a' := ?_) rfl rfl (fun _ _ _ h => h) (by assumption) (by rfl) ?_ ?_; rotate_left; (simp only [Act.put, List.setIfInBounds_toArray, List.set_cons_zero, List.set_cons_succ]; rfl)
  refine Rg.s_off (N := some 21) (a' := ?_) rfl rfl (fun _ _ _ h => h) (by rfl) ?_ ?_; rotate_left; (simp only [Act.put, List.setIfInBounds_toArray, List.set_cons_zero, List.set_cons_succ]; rfl)
  refine Rg.s_takeOff (N := some 22) (a' := ?_) rfl rfl (fun _ _ _ h => h) (by assumption) (by rfl) ?_ ?_; rotate_left; (simp only [Act.put, List.setIfInBounds_toArray, List.set_cons_zero, List.set_cons_succ]; rfl)
  refine Rg.s_off (N := some 23) (a' := ?_) rfl rfl (fun _ _ _ h => h) (by rfl) ?_ ?_; rotate_left; (simp only [Act.put, List.setIfInBounds_toArray, List.set_cons_zero, List.set_cons_succ]; rfl)
  refine Rg.p 24 ?_ ?_ rfl rfl (fun _ _ _ h => h) (by rfl) ?_ ?_ ?_; rotate_left 2; (intro w'; go_simp; with_reducible rfl); (simp only [Rg.pq, Rg.pz, Rg.ps]; rfl)
  refine Rg.p 25 ?_ ?_ rfl rfl (fun _ _ _ h => h) (by rfl) ?_ ?_ ?_; rotate_left 2; (intro w'; go_simp; with_reducible rfl); (simp only [Rg.pq, Rg.pz, Rg.ps]; rfl)
  refine Rg.s_off (N := some 26) (a' := ?_) rfl rfl (fun _ _ _ h => h) (by rfl) ?_ ?_; rotate_left; (simp only [Act.put, List.setIfInBounds_toArray, List.set_cons_zero, List.set_cons_succ]; rfl)
  refine Rg.s_takeOff (N := some 27) (a' := ?_) rfl rfl (fun _ _ _ h => h) (by assumption) (by rfl) ?_ ?_; rotate_left; (simp only [Act.put, List.setIfInBounds_toArray, List.set_cons_zero, List.set_cons_succ]; rfl)
  refine Rg.s_off (N := some 28) (a' := ?_) rfl rfl (fun _ _ _ h => h) (by rfl) ?_ ?_; rotate_left; (simp only [Act.put, List.setIfInBounds_toArray, List.set_cons_zero, List.set_cons_succ]; rfl)
  refine Rg.s_takeOff (N := some 29) (a' := ?_) rfl rfl (fun _ _ _ h => h) (by assumption) (by rfl) ?_ ?_; rotate_left; (simp only [Act.put, List.setIfInBounds_toArray, List.set_cons_zero, List.set_cons_succ]; rfl)
  refine Rg.s_off (N := some 30) (a' := ?_) rfl rfl (fun _ _ _ h => h) (by rfl) ?_ ?_; rotate_left; (simp only [Act.put, List.setIfInBounds_toArray, List.set_cons_zero, List.set_cons_succ]; rfl)
  refine Rg.p 31 ?_ ?_ rfl rfl (fun _ _ _ h => h) (by rfl) ?_ ?_ ?_; rotate_left 2; (intro w'; go_simp; with_reducible rfl); (simp only [Rg.pq, Rg.pz, Rg.ps]; rfl)
  refine Rg.p 32 ?_ ?_ rfl rfl (fun _ _ _ h => h) (by rfl) ?_ ?_ ?_; rotate_left 2; (intro w'; go_simp; with_reducible rfl); (simp only [Rg.pq, Rg.pz, Rg.ps]; rfl)
  refine Rg.s_off (N := some 33) (a' := ?_) rfl rfl (fun _ _ _ h => h) (by rfl) ?_ ?_; rotate_left; (simp only [Act.put, List.setIfInBounds_toArray, List.set_cons_zero, List.set_cons_succ]; rfl)
  refine Rg.s_takeOff (N := some 34) (a' := ?_) rfl rfl (fun _ _ _ h => h) (by assumption) (by rfl) ?_ ?_; rotate_left; (simp only [Act.put, List.setIfInBounds_toArray, List.set_cons_zero, List.set_cons_succ]; rfl)
  refine Rg.s_off (N := some 35) (a' := ?_) rfl rfl (fun _ _ _ h => h) (by rfl) ?_ ?_; rotate_left; (simp only [Act.put, List.setIfInBounds_toArray, List.set_cons_zero, List.set_cons_succ]; rfl)
  refine Rg.s_takeOff (N := some 36) (a' := ?_) rfl rfl (fun _ _ _ h => h) (by assumption) (by rfl) ?_ ?_; rotate_left; (simp only [Act.put, List.setIfInBounds_toArray, List.set_cons_zero, List.set_cons_succ]; rfl)
  refine Rg.s_off (N := some 37) (a' := ?_) rfl rfl (fun _ _ _ h => h) (by rfl) ?_ ?_; rotate_left; (simp only [Act.put, List.setIfInBounds_toArray, List.set_cons_zero, List.set_cons_succ]; rfl)
  refine Rg.p 38 ?_ ?_ rfl rfl (fun _ _ _ h => h) (by rfl) ?_ ?_ ?_; rotate_left 2; (intro w'; go_simp; with_reducible rfl); (simp only [Rg.pq, Rg.pz, Rg.ps]; rfl)
  refine Rg.p 39 ?_ ?_ rfl rfl (fun _ _ _ h => h) (by rfl) ?_ ?_ ?_; rotate_left 2; (intro w'; go_simp; with_reducible rfl); (simp only [Rg.pq, Rg.pz, Rg.ps]; rfl)
  refine Rg.s_off (N := some 40) (a' := ?_) rfl rfl (fun _ _ _ h => h) (by rfl) ?_ ?_; rotate_left; (simp only [Act.put, List.setIfInBounds_toArray, List.set_cons_zero, List.set_cons_succ]; rfl)
  refine Rg.s_takeOff (N := some 41) (a' := ?_) rfl rfl (fun _ _ _ h => h) (by assumption) (by rfl) ?_ ?_; rotate_left; (simp only [Act.put, List.setIfInBounds_toArray, List.set_cons_zero, List.set_cons_succ]; rfl)
  refine Rg.s_off (N := some 42) (a' := ?_) rfl rfl (fun _ _ _ h => h) (by rfl) ?_ ?_; rotate_left; (simp only [Act.put, List.setIfInBounds_toArray, List.set_cons_zero, List.set_cons_succ]; rfl)
  refine Rg.s_off (N := some 43) (a' := ?_) rfl rfl (fun _ _ _ h => h) (by rfl) ?_ ?_; rotate_left; (simp only [Act.put, List.setIfInBounds_toArray, List.set_cons_zero, List.set_cons_succ]; rfl)
  refine Rg.s_takeOff (N := some 44) (a' := ?_) rfl rfl (fun _ _ _ h => h) (by assumption) (by rfl) ?_ ?_; rotate_left; (simp only [Act.put, List.setIfInBounds_toArray, List.set_cons_zero, List.set_cons_succ]; rfl)
  refine Rg.s_off (N := some 45) (a' := ?_) rfl rfl (fun _ _ _ h => h) (by rfl) ?_ ?_; rotate_left; (simp only [Act.put, List.setIfInBounds_toArray, List.set_cons_zero, List.set_cons_succ]; rfl)
  refine Rg.s_off (N := some 46) (a' := ?_) rfl rfl (fun _ _ _ h => h) (by rfl) ?_ ?_; rotate_left; (simp only [Act.put, List.setIfInBounds_toArray, List.set_cons_zero, List.set_cons_succ]; rfl)
  refine Rg.p 47 ?_ ?_ rfl rfl (fun _ _ _ h => h) (by rfl) ?_ ?_ ?_; rotate_left 2; (intro w'; go_simp; with_reducible rfl); (simp only [Rg.pq, Rg.pz, Rg.ps]; rfl)
  refine Rg.s_done ?_
  go_wp2_with fail
  go_ret
  exact ⟨rfl, (hB1.alloc hB1.size _).drew⟩
set_option maxRecDepth 100000 in
set_option maxHeartbeats 4000000 in
theorem expr_no2 (x : S40) (level : Int) (A : Option Addr) (c : Nat) (w : World) (hk : known x.f0 = true) (h1 : decide (24 < level) = false) (h2 : (bareOp x != x.f1) = true) :
    Calls Tryd.prog 80 #[exV A c x, .int .i64 level] w fun e w' => e = .returned (.bool false) ∧ Below w.heap.size w w' := by
  have HB := Lib.hid (Below.refl w.heap.size w)
  go_enter Tryd.func80, Tryd.ntmps80
  unfold exV
  go_wp2_with fail
  refine (bare_calls x A c _).mono ?_
  rintro e w1 ⟨rfl, hb⟩
  rw [hk]
  have b0 : Blk w1 w.heap.size [.int .i64 x.f0, .int .i64 x.f1, .int .u64 x.f2, .string x.f3, .slice A x.f4.length c] 40 := Blk.below (Blk.alloc (Blk.alloc_new w _ _) _) hb (by simp; omega)
  have b1 : Blk w1 (w.heap.size + 1) [.int .i64 level] 3 := Blk.below (second_new w _ [.int .i64 level] 3) hb (by simp)
  have hB1 : Below w.heap.size w w1 := below_next ((HB.out.alloc (Nat.le_refl _) _).alloc (by simp) _) (by simp) hb
  have hS : Cells w.heap.size (w.heap.size + 1) w1.heap.size x A c level ((w1.alloc (.cells #[.int .i64 x.f0, .int .i64 (bareOp x), .int .u64 (bareNum x), .string (bareName x), .slice none 0 0] 40)).drew) := Cells.mk ((b0.alloc _).drew) ((b1.alloc _).drew) (Blk.alloc_new w1 _ _).drew
  have hlt0 : w.heap.size < w1.heap.size := b0.lt
  clear hb HB b0 b1
  go_wp2_with fail
  refine Rg.region_steps (S := Cells w.heap.size (w.heap.size + 1) w1.heap.size x A c level) [.any 0, .any 1, .any 2, .take 3, .any 4, .any 5, .any 6, .any 7, .take 8, .any 9, .take 10, .any 11, .any 12, .any 13, .any 14, .take 15, .any 16, .take 17, .any 18, .any 19, .any 20, .any 21, .take 22, .any 23, .take 24, .any 25, .any 26, .any 27, .any 28, .take 29, .any 30, .any 31, .take 32, .any 33, .any 34, .any 35] (by kernel_rfl) (by kernel_rfl) hS ?_
  refine Rg.p 12 ?_ ?_ rfl rfl (fun _ _ _ h => h) (by rfl) ?_ ?_ ?_; rotate_left 2; (intro w'; go_simp; with_reducible rfl); (simp only [Rg.pq, Rg.pz, Rg.ps]; rfl)
  refine Rg.p 13 ?_ ?_ rfl rfl (fun _ _ _ h => h) (by rfl) ?_ ?_ ?_; rotate_left 2; (intro w'; go_simp; with_reducible rfl); (simp only [Rg.pq, Rg.pz, Rg.ps]; rfl)
  refine Rg.p 14 ?_ ?_ rfl rfl (fun _ _ _ h => h) (by rfl) ?_ ?_ ?_; rotate_left 2; (intro w'; go_simp; with_reducible rfl); (simp only [Rg.pq, Rg.pz, Rg.ps]; rfl)
  refine Rg.t 15 ?_ ?_ rfl rfl (fun _ _ _ h => h) (by assumption) (by rfl) ?_ ?_ ?_; rotate_left 2; (rintro w' ⟨s0, s1, s2, s3, s4, s5, s6, s7, s8⟩; go_simp; with_reducible rfl); (simp only [Rg.pq, Rg.pz, Rg.ps]; rfl)
  refine Rg.p 16 ?_ ?_ rfl rfl (fun _ _ _ h => h) (by rfl) ?_ ?_ ?_; rotate_left 2; (intro w'; go_simp; with_reducible rfl); (simp only [Rg.pq, Rg.pz, Rg.ps]; rfl)
  refine Rg.p 17 ?_ ?_ rfl rfl (fun _ _ _ h => h) (by rfl) ?_ ?_ ?_; rotate_left 2; (intro w'; go_simp; with_reducible rfl); (simp only [Rg.pq, Rg.pz, Rg.ps]; rfl)
  refine Rg.p 18 ?_ ?_ rfl rfl (fun _ _ _ h => h) (by rfl) ?_ ?_ ?_; rotate_left 2; (intro w'; go_simp; with_reducible rfl); (simp only [Rg.pq, Rg.pz, Rg.ps]; rfl)
  refine Rg.p 19 ?_ ?_ rfl rfl (fun _ _ _ h => h) (by rfl) ?_ ?_ ?_; rotate_left 2; (intro w'; go_simp; with_reducible rfl); (simp only [Rg.pq, Rg.pz, Rg.ps]; rfl)
  refine Rg.t 20 ?_ ?_ rfl rfl (fun _ _ _ h => h) (by assumption) (by rfl) ?_ ?_ ?_; rotate_left 2; (rintro w' ⟨s0, s1, s2, s3, s4, s5, s6, s7, s8⟩; go_simp; with_reducible rfl); (simp only [Rg.pq, Rg.pz, Rg.ps]; rfl)
  refine Rg.p 21 ?_ ?_ rfl rfl (fun _ _ _ h => h) (by rfl) ?_ ?_ ?_; rotate_left 2; (intro w'; go_simp; with_reducible rfl); (simp only [Rg.pq, Rg.pz, Rg.ps]; rfl)
  refine Rg.t 22 ?_ ?_ rfl rfl (fun _ _ _ h => h) (by assumption) (by rfl) ?_ ?_ ?_; rotate_left 2; (rintro w' ⟨s0, s1, s2, s3, s4, s5, s6, s7, s8⟩; go_simp; with_reducible rfl); (simp only [Rg.pq, Rg.pz, Rg.ps]; rfl)
  refine Rg.p 23 ?_ ?_ rfl rfl (fun _ _ _ h => h) (by rfl) ?_ ?_ ?_; rotate_left 2; (intro w'; go_simp; with_reducible rfl); (simp only [Rg.pq, Rg.pz, Rg.ps]; rfl)
  refine Rg.p 24 ?_ ?_ rfl rfl (fun _ _ _ h => h) (by rfl) ?_ ?_ ?_; rotate_left 2; (intro w'; go_simp; with_reducible rfl); (simp only [Rg.pq, Rg.pz, Rg.ps]; rfl)
  refine Rg.p 25 ?_ ?_ rfl rfl (fun _ _ _ h => h) (by rfl) ?_ ?_ ?_; rotate_left 2; (intro w'; go_simp; with_reducible rfl); (simp only [Rg.pq, Rg.pz, Rg.ps]; rfl)
  refine Rg.s_off (N := some 26) (a' := ?_) rfl rfl (fun _ _ _ h => h) (by rfl) ?_ ?_; rotate_left; (simp only [Act.put, List.setIfInBounds_toArray, List.set_cons_zero, List.set_cons_succ]; rfl)
  refine Rg.s_takeOff (N := some 27) (a' := ?_) rfl rfl (fun _ _ _ h => h) (by assumption) (by rfl) ?_ ?_; rotate_left; (simp only [Act.put, List.setIfInBounds_toArray, List.set_cons_zero, List.set_cons_succ]; rfl)
  refine Rg.s_off (N := some 28) (a' := ?_) rfl rfl (fun _ _ _ h => h) (by rfl) ?_ ?_; rotate_left; (simp only [Act.put, List.setIfInBounds_toArray, List.set_cons_zero, List.set_cons_succ]; rfl)
  refine Rg.s_takeOff (N := some 29) (a' := ?_) rfl rfl (fun _ _ _ h => h) (by assumption) (by rfl) ?_ ?_; rotate_left; (simp only [Act.put, List.setIfInBounds_toArray, List.set_cons_zero, List.set_cons_succ]; rfl)
  refine Rg.s_off (N := some 30) (a' := ?_) rfl rfl (fun _ _ _ h => h) (by rfl) ?_ ?_; rotate_left; (simp only [Act.put, List.setIfInBounds_toArray, List.set_cons_zero, List.set_cons_succ]; rfl)
  refine Rg.p 31 ?_ ?_ rfl rfl (fun _ _ _ h => h) (by rfl) ?_ ?_ ?_; rotate_left 2; (intro w'; go_simp; with_reducible rfl); (simp only [Rg.pq, Rg.pz, Rg.ps]; rfl)
  refine Rg.p 32 ?_ ?_ rfl rfl (fun _ _ _ h => h) (by rfl) ?_ ?_ ?_; rotate_left 2; (intro w'; go_simp; with_reducible rfl); (simp only [Rg.pq, Rg.pz, Rg.ps]; rfl)
  refine Rg.s_off (N := some 33) (a' := ?_) rfl rfl (fun _ _ _ h => h) (by rfl) ?_ ?_; rotate_left; (simp only [Act.put, List.setIfInBounds_toArray, List.set_cons_zero, List.set_cons_succ]; rfl)
  refine Rg.s_takeOff (N := some 34) (a' := ?_) rfl rfl (fun _ _ _ h => h) (by assumption) (by rfl) ?_ ?_; rotate_left; (simp only [Act.put, List.setIfInBounds_toArray, List.set_cons_zero, List.set_cons_succ]; rfl)
  refine Rg.s_off (N := some 35) (a' := ?_) rfl rfl (fun _ _ _ h => h) (by rfl) ?_ ?_; rotate_left; (simp only [Act.put, List.setIfInBounds_toArray, List.set_cons_zero, List.set_cons_succ]; rfl)
  refine Rg.s_takeOff (N := some 36) (a' := ?_) rfl rfl (fun _ _ _ h => h) (by assumption) (by rfl) ?_ ?_; rotate_left; (simp only [Act.put, List.setIfInBounds_toArray, List.set_cons_zero, List.set_cons_succ]; rfl)
  refine Rg.s_off (N := some 37) (a' := ?_) rfl rfl (fun _ _ _ h => h) (by rfl) ?_ ?_; rotate_left; (simp only [Act.put, List.setIfInBounds_toArray, List.set_cons_zero, List.set_cons_succ]; rfl)
  refine Rg.p 38 ?_ ?_ rfl rfl (fun _ _ _ h => h) (by rfl) ?_ ?_ ?_; rotate_left 2; (intro w'; go_simp; with_reducible rfl); (simp only [Rg.pq, Rg.pz, Rg.ps]; rfl)
  refine Rg.p 39 ?_ ?_ rfl rfl (fun _ _ _ h => h) (by rfl) ?_ ?_ ?_; rotate_left 2; (intro w'; go_simp; with_reducible rfl); (simp only [Rg.pq, Rg.pz, Rg.ps]; rfl)
  refine Rg.s_off (N := some 40) (a' := ?_) rfl rfl (fun _ _ _ h => h) (by rfl) ?_ ?_; rotate_left; (simp only [Act.put, List.setIfInBounds_toArray, List.set_cons_zero, List.set_cons_succ]; rfl)
  refine Rg.s_takeOff (N := some 41) (a' := ?_) rfl rfl (fun _ _ _ h => h) (by assumption) (by rfl) ?_ ?_; rotate_left; (simp only [Act.put, List.setIfInBounds_toArray, List.set_cons_zero, List.set_cons_succ]; rfl)
  refine Rg.s_off (N := some 42) (a' := ?_) rfl rfl (fun _ _ _ h => h) (by rfl) ?_ ?_; rotate_left; (simp only [Act.put, List.setIfInBounds_toArray, List.set_cons_zero, List.set_cons_succ]; rfl)
  refine Rg.s_off (N := some 43) (a' := ?_) rfl rfl (fun _ _ _ h => h) (by rfl) ?_ ?_; rotate_left; (simp only [Act.put, List.setIfInBounds_toArray, List.set_cons_zero, List.set_cons_succ]; rfl)
  refine Rg.s_takeOff (N := some 44) (a' := ?_) rfl rfl (fun _ _ _ h => h) (by assumption) (by rfl) ?_ ?_; rotate_left; (simp only [Act.put, List.setIfInBounds_toArray, List.set_cons_zero, List.set_cons_succ]; rfl)
  refine Rg.s_off (N := some 45) (a' := ?_) rfl rfl (fun _ _ _ h => h) (by rfl) ?_ ?_; rotate_left; (simp only [Act.put, List.setIfInBounds_toArray, List.set_cons_zero, List.set_cons_succ]; rfl)
  refine Rg.s_off (N := some 46) (a' := ?_) rfl rfl (fun _ _ _ h => h) (by rfl) ?_ ?_; rotate_left; (simp only [Act.put, List.setIfInBounds_toArray, List.set_cons_zero, List.set_cons_succ]; rfl)
  refine Rg.p 47 ?_ ?_ rfl rfl (fun _ _ _ h => h) (by rfl) ?_ ?_ ?_; rotate_left 2; (intro w'; go_simp; with_reducible rfl); (simp only [Rg.pq, Rg.pz, Rg.ps]; rfl)
  refine Rg.s_done ?_
  go_wp2_with fail
  go_ret
  exact ⟨rfl, (hB1.alloc hB1.size _).drew⟩
set_option maxRecDepth 100000 in
set_option maxHeartbeats 4000000 in
theorem expr_no3 (x : S40) (level : Int) (A : Option Addr) (c : Nat) (w : World) (hk : known x.f0 = true) (h1 : decide (24 < level) = false) (h2 : (bareOp x != x.f1) = false) (h3 : (bareNum x != x.f2) = true) :
    Calls Tryd.prog 80 #[exV A c x, .int .i64 level] w fun e w' => e = .returned (.bool false) ∧ Below w.heap.size w w' := by
  have HB := Lib.hid (Below.refl w.heap.size w)
  go_enter Tryd.func80, Tryd.ntmps80
  unfold exV
  go_wp2_with fail
  refine (bare_calls x A c _).mono ?_
  rintro e w1 ⟨rfl, hb⟩
  rw [hk]
  have b0 : Blk w1 w.heap.size [.int .i64 x.f0, .int .i64 x.f1, .int .u64 x.f2, .string x.f3, .slice A x.f4.length c] 40 := Blk.below (Blk.alloc (Blk.alloc_new w _ _) _) hb (by simp; omega)
  have b1 : Blk w1 (w.heap.size + 1) [.int .i64 level] 3 := Blk.below (second_new w _ [.int .i64 level] 3) hb (by simp)
  have hB1 : Below w.heap.size w w1 := below_next ((HB.out.alloc (Nat.le_refl _) _).alloc (by simp) _) (by simp) hb
  have hS : Cells w.heap.size (w.heap.size + 1) w1.heap.size x A c level ((w1.alloc (.cells #[.int .i64 x.f0, .int .i64 (bareOp x), .int .u64 (bareNum x), .string (bareName x), .slice none 0 0] 40)).drew) := Cells.mk ((b0.alloc _).drew) ((b1.alloc _).drew) (Blk.alloc_new w1 _ _).drew
  have hlt0 : w.heap.size < w1.heap.size := b0.lt
  clear hb HB b0 b1
  go_wp2_with fail
  refine Rg.region_steps (S := Cells w.heap.size (w.heap.size + 1) w1.heap.size x A c level) [.any 0, .any 1, .any 2, .take 3, .any 4, .any 5, .any 6, .any 7, .take 8, .any 9, .take 10, .any 11, .any 12, .any 13, .any 14, .take 15, .any 16, .take 17, .any 18, .any 19, .any 20, .any 21, .take 22, .any 23, .take 24, .any 25, .any 26, .any 27, .any 28, .take 29, .any 30, .any 31, .take 32, .any 33, .any 34, .any 35] (by kernel_rfl) (by kernel_rfl) hS ?_
  refine Rg.p 12 ?_ ?_ rfl rfl (fun _ _ _ h => h) (by rfl) ?_ ?_ ?_; rotate_left 2; (intro w'; go_simp; with_reducible rfl); (simp only [Rg.pq, Rg.pz, Rg.ps]; rfl)
  refine Rg.p 13 ?_ ?_ rfl rfl (fun _ _ _ h => h) (by rfl) ?_ ?_ ?_; rotate_left 2; (intro w'; go_simp; with_reducible rfl); (simp only [Rg.pq, Rg.pz, Rg.ps]; rfl)
  refine Rg.p 14 ?_ ?_ rfl rfl (fun _ _ _ h => h) (by rfl) ?_ ?_ ?_; rotate_left 2; (intro w'; go_simp; with_reducible rfl); (simp only [Rg.pq, Rg.pz, Rg.ps]; rfl)
  refine Rg.t 15 ?_ ?_ rfl rfl (fun _ _ _ h => h) (by assumption) (by rfl) ?_ ?_ ?_; rotate_left 2; (rintro w' ⟨s0, s1, s2, s3, s4, s5, s6, s7, s8⟩; go_simp; with_reducible rfl); (simp only [Rg.pq, Rg.pz, Rg.ps]; rfl)
  refine Rg.p 16 ?_ ?_ rfl rfl (fun _ _ _ h => h) (by rfl) ?_ ?_ ?_; rotate_left 2; (intro w'; go_simp; with_reducible rfl); (simp only [Rg.pq, Rg.pz, Rg.ps]; rfl)
  refine Rg.p 17 ?_ ?_ rfl rfl (fun _ _ _ h => h) (by rfl) ?_ ?_ ?_; rotate_left 2; (intro w'; go_simp; with_reducible rfl); (simp only [Rg.pq, Rg.pz, Rg.ps]; rfl)
  refine Rg.p 18 ?_ ?_ rfl rfl (fun _ _ _ h => h) (by rfl) ?_ ?_ ?_; rotate_left 2; (intro w'; go_simp; with_reducible rfl); (simp only [Rg.pq, Rg.pz, Rg.ps]; rfl)
  refine Rg.p 19 ?_ ?_ rfl rfl (fun _ _ _ h => h) (by rfl) ?_ ?_ ?_; rotate_left 2; (intro w'; go_simp; with_reducible rfl); (simp only [Rg.pq, Rg.pz, Rg.ps]; rfl)
  refine Rg.t 20 ?_ ?_ rfl rfl (fun _ _ _ h => h) (by assumption) (by rfl) ?_ ?_ ?_; rotate_left 2; (rintro w' ⟨s0, s1, s2, s3, s4, s5, s6, s7, s8⟩; go_simp; with_reducible rfl); (simp only [Rg.pq, Rg.pz, Rg.ps]; rfl)
  refine Rg.p 21 ?_ ?_ rfl rfl (fun _ _ _ h => h) (by rfl) ?_ ?_ ?_; rotate_left 2; (intro w'; go_simp; with_reducible rfl); (simp only [Rg.pq, Rg.pz, Rg.ps]; rfl)
  refine Rg.t 22 ?_ ?_ rfl rfl (fun _ _ _ h => h) (by assumption) (by rfl) ?_ ?_ ?_; rotate_left 2; (rintro w' ⟨s0, s1, s2, s3, s4, s5, s6, s7, s8⟩; go_simp; with_reducible rfl); (simp only [Rg.pq, Rg.pz, Rg.ps]; rfl)
  refine Rg.p 23 ?_ ?_ rfl rfl (fun _ _ _ h => h) (by rfl) ?_ ?_ ?_; rotate_left 2; (intro w'; go_simp; with_reducible rfl); (simp only [Rg.pq, Rg.pz, Rg.ps]; rfl)
  refine Rg.p 24 ?_ ?_ rfl rfl (fun _ _ _ h => h) (by rfl) ?_ ?_ ?_; rotate_left 2; (intro w'; go_simp; with_reducible rfl); (simp only [Rg.pq, Rg.pz, Rg.ps]; rfl)
  refine Rg.p 25 ?_ ?_ rfl rfl (fun _ _ _ h => h) (by rfl) ?_ ?_ ?_; rotate_left 2; (intro w'; go_simp; with_reducible rfl); (simp only [Rg.pq, Rg.pz, Rg.ps]; rfl)
  refine Rg.p 26 ?_ ?_ rfl rfl (fun _ _ _ h => h) (by rfl) ?_ ?_ ?_; rotate_left 2; (intro w'; go_simp; with_reducible rfl); (simp only [Rg.pq, Rg.pz, Rg.ps]; rfl)
  refine Rg.t 27 ?_ ?_ rfl rfl (fun _ _ _ h => h) (by assumption) (by rfl) ?_ ?_ ?_; rotate_left 2; (rintro w' ⟨s0, s1, s2, s3, s4, s5, s6, s7, s8⟩; go_simp; with_reducible rfl); (simp only [Rg.pq, Rg.pz, Rg.ps]; rfl)
  refine Rg.p 28 ?_ ?_ rfl rfl (fun _ _ _ h => h) (by rfl) ?_ ?_ ?_; rotate_left 2; (intro w'; go_simp; with_reducible rfl); (simp only [Rg.pq, Rg.pz, Rg.ps]; rfl)
  refine Rg.t 29 ?_ ?_ rfl rfl (fun _ _ _ h => h) (by assumption) (by rfl) ?_ ?_ ?_; rotate_left 2; (rintro w' ⟨s0, s1, s2, s3, s4, s5, s6, s7, s8⟩; go_simp; with_reducible rfl); (simp only [Rg.pq, Rg.pz, Rg.ps]; rfl)
  refine Rg.p 30 ?_ ?_ rfl rfl (fun _ _ _ h => h) (by rfl) ?_ ?_ ?_; rotate_left 2; (intro w'; go_simp; with_reducible rfl); (simp only [Rg.pq, Rg.pz, Rg.ps]; rfl)
  refine Rg.p 31 ?_ ?_ rfl rfl (fun _ _ _ h => h) (by rfl) ?_ ?_ ?_; rotate_left 2; (intro w'; go_simp; with_reducible rfl); (simp only [Rg.pq, Rg.pz, Rg.ps]; rfl)
  refine Rg.p 32 ?_ ?_ rfl rfl (fun _ _ _ h => h) (by rfl) ?_ ?_ ?_; rotate_left 2; (intro w'; go_simp; with_reducible rfl); (simp only [Rg.pq, Rg.pz, Rg.ps]; rfl)
  refine Rg.s_off (N := some 33) (a' := ?_) rfl rfl (fun _ _ _ h => h) (by rfl) ?_ ?_; rotate_left; (simp only [Act.put, List.setIfInBounds_toArray, List.set_cons_zero, List.set_cons_succ]; rfl)
  refine Rg.s_takeOff (N := some 34) (a' := ?_) rfl rfl (fun _ _ _ h => h) (by assumption) (by rfl) ?_ ?_; rotate_left; (simp only [Act.put, List.setIfInBounds_toArray, List.set_cons_zero, List.set_cons_succ]; rfl)
  refine Rg.s_off (N := some 35) (a' := ?_) rfl rfl (fun _ _ _ h => h) (by rfl) ?_ ?_; rotate_left; (simp only [Act.put, List.setIfInBounds_toArray, List.set_cons_zero, List.set_cons_succ]; rfl)
  refine Rg.s_takeOff (N := some 36) (a' := ?_) rfl rfl (fun _ _ _ h => h) (by assumption) (by rfl) ?_ ?_; rotate_left; (simp only [Act.put, List.setIfInBounds_toArray, List.set_cons_zero, List.set_cons_succ]; rfl)
  refine Rg.s_off (N := some 37) (a' := ?_) rfl rfl (fun _ _ _ h => h) (by rfl) ?_ ?_; rotate_left; (simp only [Act.put, List.setIfInBounds_toArray, List.set_cons_zero, List.set_cons_succ]; rfl)
  refine Rg.p 38 ?_ ?_ rfl rfl (fun _ _ _ h => h) (by rfl) ?_ ?_ ?_; rotate_left 2; (intro w'; go_simp; with_reducible rfl); (simp only [Rg.pq, Rg.pz, Rg.ps]; rfl)
  refine Rg.p 39 ?_ ?_ rfl rfl (fun _ _ _ h => h) (by rfl) ?_ ?_ ?_; rotate_left 2; (intro w'; go_simp; with_reducible rfl); (simp only [Rg.pq, Rg.pz, Rg.ps]; rfl)
  refine Rg.s_off (N := some 40) (a' := ?_) rfl rfl (fun _ _ _ h => h) (by rfl) ?_ ?_; rotate_left; (simp only [Act.put, List.setIfInBounds_toArray, List.set_cons_zero, List.set_cons_succ]; rfl)
  refine Rg.s_takeOff (N := some 41) (a' := ?_) rfl rfl (fun _ _ _ h => h) (by assumption) (by rfl) ?_ ?_; rotate_left; (simp only [Act.put, List.setIfInBounds_toArray, List.set_cons_zero, List.set_cons_succ]; rfl)
  refine Rg.s_off (N := some 42) (a' := ?_) rfl rfl (fun _ _ _ h => h) (by rfl) ?_ ?_; rotate_left; (simp only [Act.put, List.setIfInBounds_toArray, List.set_cons_zero, List.set_cons_succ]; rfl)
  refine Rg.s_off (N := some 43) (a' := ?_) rfl rfl (fun _ _ _ h => h) (by rfl) ?_ ?_; rotate_left; (simp only [Act.put, List.setIfInBounds_toArray, List.set_cons_zero, List.set_cons_succ]; rfl)
  refine Rg.s_takeOff (N := some 44) (a' := ?_) rfl rfl (fun _ _ _ h => h) (by assumption) (by rfl) ?_ ?_; rotate_left; (simp only [Act.put, List.setIfInBounds_toArray, List.set_cons_zero, List.set_cons_succ]; rfl)
  refine Rg.s_off (N := some 45) (a' := ?_) rfl rfl (fun _ _ _ h => h) (by rfl) ?_ ?_; rotate_left; (simp only [Act.put, List.setIfInBounds_toArray, List.set_cons_zero, List.set_cons_succ]; rfl)
  refine Rg.s_off (N := some 46) (a' := ?_) rfl rfl (fun _ _ _ h => h) (by rfl) ?_ ?_; rotate_left; (simp only [Act.put, List.setIfInBounds_toArray, List.set_cons_zero, List.set_cons_succ]; rfl)
  refine Rg.p 47 ?_ ?_ rfl rfl (fun _ _ _ h => h) (by rfl) ?_ ?_ ?_; rotate_left 2; (intro w'; go_simp; with_reducible rfl); (simp only [Rg.pq, Rg.pz, Rg.ps]; rfl)
  refine Rg.s_done ?_
  go_wp2_with fail
  go_ret
  exact ⟨rfl, (hB1.alloc hB1.size _).drew⟩
set_option maxRecDepth 100000 in
set_option maxHeartbeats 4000000 in
theorem expr_no4 (x : S40) (level : Int) (A : Option Addr) (c : Nat) (w : World) (hk : known x.f0 = true) (h1 : decide (24 < level) = false) (h2 : (bareOp x != x.f1) = false) (h3 : (bareNum x != x.f2) = false) (h4 : ((bareName x).toList == x.f3.toList) = false) :
    Calls Tryd.prog 80 #[exV A c x, .int .i64 level] w fun e w' => e = .returned (.bool false) ∧ Below w.heap.size w w' := by
  have HB := Lib.hid (Below.refl w.heap.size w)
  go_enter Tryd.func80, Tryd.ntmps80
  unfold exV
  go_wp2_with fail
  refine (bare_calls x A c _).mono ?_
  rintro e w1 ⟨rfl, hb⟩
  rw [hk]
  have b0 : Blk w1 w.heap.size [.int .i64 x.f0, .int .i64 x.f1, .int .u64 x.f2, .string x.f3, .slice A x.f4.length c] 40 := Blk.below (Blk.alloc (Blk.alloc_new w _ _) _) hb (by simp; omega)
  have b1 : Blk w1 (w.heap.size + 1) [.int .i64 level] 3 := Blk.below (second_new w _ [.int .i64 level] 3) hb (by simp)
  have hB1 : Below w.heap.size w w1 := below_next ((HB.out.alloc (Nat.le_refl _) _).alloc (by simp) _) (by simp) hb
  have hS : Cells w.heap.size (w.heap.size + 1) w1.heap.size x A c level ((w1.alloc (.cells #[.int .i64 x.f0, .int .i64 (bareOp x), .int .u64 (bareNum x), .string (bareName x), .slice none 0 0] 40)).drew) := Cells.mk ((b0.alloc _).drew) ((b1.alloc _).drew) (Blk.alloc_new w1 _ _).drew
  have hlt0 : w.heap.size < w1.heap.size := b0.lt
  clear hb HB b0 b1
  go_wp2_with fail
  refine Rg.region_steps (S := Cells w.heap.size (w.heap.size + 1) w1.heap.size x A c level) [.any 0, .any 1, .any 2, .take 3, .any 4, .any 5, .any 6, .any 7, .take 8, .any 9, .take 10, .any 11, .any 12, .any 13, .any 14, .take 15, .any 16, .take 17, .any 18, .any 19, .any 20, .any 21, .take 22, .any 23, .take 24, .any 25, .any 26, .any 27, .any 28, .take 29, .any 30, .any 31, .take 32, .any 33, .any 34, .any 35] (by kernel_rfl) (by kernel_rfl) hS ?_
  refine Rg.p 12 ?_ ?_ rfl rfl (fun _ _ _ h => h) (by rfl) ?_ ?_ ?_; rotate_left 2; (intro w'; go_simp; with_reducible rfl); (simp only [Rg.pq, Rg.pz, Rg.ps]; rfl)
  refine Rg.p 13 ?_ ?_ rfl rfl (fun _ _ _ h => h) (by rfl) ?_ ?_ ?_; rotate_left 2; (intro w'; go_simp; with_reducible rfl); (simp only [Rg.pq, Rg.pz, Rg.ps]; rfl)
  refine Rg.p 14 ?_ ?_ rfl rfl (fun _ _ _ h => h) (by rfl) ?_ ?_ ?_; rotate_left 2; (intro w'; go_simp; with_reducible rfl); (simp only [Rg.pq, Rg.pz, Rg.ps]; rfl)
  refine Rg.t 15 ?_ ?_ rfl rfl (fun _ _ _ h => h) (by assumption) (by rfl) ?_ ?_ ?_; rotate_left 2; (rintro w' ⟨s0, s1, s2, s3, s4, s5, s6, s7, s8⟩; go_simp; with_reducible rfl); (simp only [Rg.pq, Rg.pz, Rg.ps]; rfl)
  refine Rg.p 16 ?_ ?_ rfl rfl (fun _ _ _ h => h) (by rfl) ?_ ?_ ?_; rotate_left 2; (intro w'; go_simp; with_reducible rfl); (simp only [Rg.pq, Rg.pz, Rg.ps]; rfl)
  refine Rg.p 17 ?_ ?_ rfl rfl (fun _ _ _ h => h) (by rfl) ?_ ?_ ?_; rotate_left 2; (intro w'; go_simp; with_reducible rfl); (simp only [Rg.pq, Rg.pz, Rg.ps]; rfl)
  refine Rg.p 18 ?_ ?_ rfl rfl (fun _ _ _ h => h) (by rfl) ?_ ?_ ?_; rotate_left 2; (intro w'; go_simp; with_reducible rfl); (simp only [Rg.pq, Rg.pz, Rg.ps]; rfl)
  refine Rg.p 19 ?_ ?_ rfl rfl (fun _ _ _ h => h) (by rfl) ?_ ?_ ?_; rotate_left 2; (intro w'; go_simp; with_reducible rfl); (simp only [Rg.pq, Rg.pz, Rg.ps]; rfl)
  refine Rg.t 20 ?_ ?_ rfl rfl (fun _ _ _ h => h) (by assumption) (by rfl) ?_ ?_ ?_; rotate_left 2; (rintro w' ⟨s0, s1, s2, s3, s4, s5, s6, s7, s8⟩; go_simp; with_reducible rfl); (simp only [Rg.pq, Rg.pz, Rg.ps]; rfl)
  refine Rg.p 21 ?_ ?_ rfl rfl (fun _ _ _ h => h) (by rfl) ?_ ?_ ?_; rotate_left 2; (intro w'; go_simp; with_reducible rfl); (simp only [Rg.pq, Rg.pz, Rg.ps]; rfl)
  refine Rg.t 22 ?_ ?_ rfl rfl (fun _ _ _ h => h) (by assumption) (by rfl) ?_ ?_ ?_; rotate_left 2; (rintro w' ⟨s0, s1, s2, s3, s4, s5, s6, s7, s8⟩; go_simp; with_reducible rfl); (simp only [Rg.pq, Rg.pz, Rg.ps]; rfl)
  refine Rg.p 23 ?_ ?_ rfl rfl (fun _ _ _ h => h) (by rfl) ?_ ?_ ?_; rotate_left 2; (intro w'; go_simp; with_reducible rfl); (simp only [Rg.pq, Rg.pz, Rg.ps]; rfl)
  refine Rg.p 24 ?_ ?_ rfl rfl (fun _ _ _ h => h) (by rfl) ?_ ?_ ?_; rotate_left 2; (intro w'; go_simp; with_reducible rfl); (simp only [Rg.pq, Rg.pz, Rg.ps]; rfl)
  refine Rg.p 25 ?_ ?_ rfl rfl (fun _ _ _ h => h) (by rfl) ?_ ?_ ?_; rotate_left 2; (intro w'; go_simp; with_reducible rfl); (simp only [Rg.pq, Rg.pz, Rg.ps]; rfl)
  refine Rg.p 26 ?_ ?_ rfl rfl (fun _ _ _ h => h) (by rfl) ?_ ?_ ?_; rotate_left 2; (intro w'; go_simp; with_reducible rfl); (simp only [Rg.pq, Rg.pz, Rg.ps]; rfl)
  refine Rg.t 27 ?_ ?_ rfl rfl (fun _ _ _ h => h) (by assumption) (by rfl) ?_ ?_ ?_; rotate_left 2; (rintro w' ⟨s0, s1, s2, s3, s4, s5, s6, s7, s8⟩; go_simp; with_reducible rfl); (simp only [Rg.pq, Rg.pz, Rg.ps]; rfl)
  refine Rg.p 28 ?_ ?_ rfl rfl (fun _ _ _ h => h) (by rfl) ?_ ?_ ?_; rotate_left 2; (intro w'; go_simp; with_reducible rfl); (simp only [Rg.pq, Rg.pz, Rg.ps]; rfl)
  refine Rg.t 29 ?_ ?_ rfl rfl (fun _ _ _ h => h) (by assumption) (by rfl) ?_ ?_ ?_; rotate_left 2; (rintro w' ⟨s0, s1, s2, s3, s4, s5, s6, s7, s8⟩; go_simp; with_reducible rfl); (simp only [Rg.pq, Rg.pz, Rg.ps]; rfl)
  refine Rg.p 30 ?_ ?_ rfl rfl (fun _ _ _ h => h) (by rfl) ?_ ?_ ?_; rotate_left 2; (intro w'; go_simp; with_reducible rfl); (simp only [Rg.pq, Rg.pz, Rg.ps]; rfl)
  refine Rg.p 31 ?_ ?_ rfl rfl (fun _ _ _ h => h) (by rfl) ?_ ?_ ?_; rotate_left 2; (intro w'; go_simp; with_reducible rfl); (simp only [Rg.pq, Rg.pz, Rg.ps]; rfl)
  refine Rg.p 32 ?_ ?_ rfl rfl (fun _ _ _ h => h) (by rfl) ?_ ?_ ?_; rotate_left 2; (intro w'; go_simp; with_reducible rfl); (simp only [Rg.pq, Rg.pz, Rg.ps]; rfl)
  refine Rg.p 33 ?_ ?_ rfl rfl (fun _ _ _ h => h) (by rfl) ?_ ?_ ?_; rotate_left 2; (intro w'; go_simp; with_reducible rfl); (simp only [Rg.pq, Rg.pz, Rg.ps]; rfl)
  refine Rg.t 34 ?_ ?_ rfl rfl (fun _ _ _ h => h) (by assumption) (by rfl) ?_ ?_ ?_; rotate_left 2; (rintro w' ⟨s0, s1, s2, s3, s4, s5, s6, s7, s8⟩; go_simp; with_reducible rfl); (simp only [Rg.pq, Rg.pz, Rg.ps]; rfl)
  refine Rg.p 35 ?_ ?_ rfl rfl (fun _ _ _ h => h) (by rfl) ?_ ?_ ?_; rotate_left 2; (intro w'; go_simp; with_reducible rfl); (simp only [Rg.pq, Rg.pz, Rg.ps]; rfl)
  refine Rg.t 36 ?_ ?_ rfl rfl (fun _ _ _ h => h) (by assumption) (by rfl) ?_ ?_ ?_; rotate_left 2; (rintro w' ⟨s0, s1, s2, s3, s4, s5, s6, s7, s8⟩; go_simp; with_reducible rfl); (simp only [Rg.pq, Rg.pz, Rg.ps]; rfl)
  refine Rg.p 37 ?_ ?_ rfl rfl (fun _ _ _ h => h) (by rfl) ?_ ?_ ?_; rotate_left 2; (intro w'; go_simp; with_reducible rfl); (simp only [Rg.pq, Rg.pz, Rg.ps]; rfl)
  refine Rg.p 38 ?_ ?_ rfl rfl (fun _ _ _ h => h) (by rfl) ?_ ?_ ?_; rotate_left 2; (intro w'; go_simp; with_reducible rfl); (simp only [Rg.pq, Rg.pz, Rg.ps]; rfl)
  refine Rg.p 39 ?_ ?_ rfl rfl (fun _ _ _ h => h) (by rfl) ?_ ?_ ?_; rotate_left 2; (intro w'; go_simp; with_reducible rfl); (simp only [Rg.pq, Rg.pz, Rg.ps]; rfl)
  refine Rg.s_off (N := some 40) (a' := ?_) rfl rfl (fun _ _ _ h => h) (by rfl) ?_ ?_; rotate_left; (simp only [Act.put, List.setIfInBounds_toArray, List.set_cons_zero, List.set_cons_succ]; rfl)
  refine Rg.s_takeOff (N := some 41) (a' := ?_) rfl rfl (fun _ _ _ h => h) (by assumption) (by rfl) ?_ ?_; rotate_left; (simp only [Act.put, List.setIfInBounds_toArray, List.set_cons_zero, List.set_cons_succ]; rfl)
  refine Rg.s_off (N := some 42) (a' := ?_) rfl rfl (fun _ _ _ h => h) (by rfl) ?_ ?_; rotate_left; (simp only [Act.put, List.setIfInBounds_toArray, List.set_cons_zero, List.set_cons_succ]; rfl)
  refine Rg.s_off (N := some 43) (a' := ?_) rfl rfl (fun _ _ _ h => h) (by rfl) ?_ ?_; rotate_left; (simp only [Act.put, List.setIfInBounds_toArray, List.set_cons_zero, List.set_cons_succ]; rfl)
  refine Rg.s_takeOff (N := some 44) (a' := ?_) rfl rfl (fun _ _ _ h => h) (by assumption) (by rfl) ?_ ?_; rotate_left; (simp only [Act.put, List.setIfInBounds_toArray, List.set_cons_zero, List.set_cons_succ]; rfl)
  refine Rg.s_off (N := some 45) (a' := ?_) rfl rfl (fun _ _ _ h => h) (by rfl) ?_ ?_; rotate_left; (simp only [Act.put, List.setIfInBounds_toArray, List.set_cons_zero, List.set_cons_succ]; rfl)
  refine Rg.s_off (N := some 46) (a' := ?_) rfl rfl (fun _ _ _ h => h) (by rfl) ?_ ?_; rotate_left; (simp only [Act.put, List.setIfInBounds_toArray, List.set_cons_zero, List.set_cons_succ]; rfl)
  refine Rg.p 47 ?_ ?_ rfl rfl (fun _ _ _ h => h) (by rfl) ?_ ?_ ?_; rotate_left 2; (intro w'; go_simp; with_reducible rfl); (simp only [Rg.pq, Rg.pz, Rg.ps]; rfl)
  refine Rg.s_done ?_
  go_wp2_with fail
  go_ret
  exact ⟨rfl, (hB1.alloc hB1.size _).drew⟩
set_option maxRecDepth 100000 in
set_option maxHeartbeats 4000000 in
theorem expr_no5 (x : S40) (level : Int) (A : Option Addr) (c : Nat) (w : World) (hk : known x.f0 = true) (h1 : decide (24 < level) = false) (h2 : (bareOp x != x.f1) = false) (h3 : (bareNum x != x.f2) = false) (h4 : ((bareName x).toList == x.f3.toList) = true) (h5 : ((x.f4.length : Int) != kidsN x.f0) = true) :
    Calls Tryd.prog 80 #[exV A c x, .int .i64 level] w fun e w' => e = .returned (.bool false) ∧ Below w.heap.size w w' := by
  have HB := Lib.hid (Below.refl w.heap.size w)
  go_enter Tryd.func80, Tryd.ntmps80
  unfold exV
  go_wp2_with fail
  refine (bare_calls x A c _).mono ?_
  rintro e w1 ⟨rfl, hb⟩
  rw [hk]
  have b0 : Blk w1 w.heap.size [.int .i64 x.f0, .int .i64 x.f1, .int .u64 x.f2, .string x.f3, .slice A x.f4.length c] 40 := Blk.below (Blk.alloc (Blk.alloc_new w _ _) _) hb (by simp; omega)
  have b1 : Blk w1 (w.heap.size + 1) [.int .i64 level] 3 := Blk.below (second_new w _ [.int .i64 level] 3) hb (by simp)
  have hB1 : Below w.heap.size w w1 := below_next ((HB.out.alloc (Nat.le_refl _) _).alloc (by simp) _) (by simp) hb
  have hS : Cells w.heap.size (w.heap.size + 1) w1.heap.size x A c level ((w1.alloc (.cells #[.int .i64 x.f0, .int .i64 (bareOp x), .int .u64 (bareNum x), .string (bareName x), .slice none 0 0] 40)).drew) := Cells.mk ((b0.alloc _).drew) ((b1.alloc _).drew) (Blk.alloc_new w1 _ _).drew
  have hlt0 : w.heap.size < w1.heap.size := b0.lt
  clear hb HB b0 b1
  go_wp2_with fail
  refine Rg.region_steps (S := Cells w.heap.size (w.heap.size + 1) w1.heap.size x A c level) [.any 0, .any 1, .any 2, .take 3, .any 4, .any 5, .any 6, .any 7, .take 8, .any 9, .take 10, .any 11, .any 12, .any 13, .any 14, .take 15, .any 16, .take 17, .any 18, .any 19, .any 20, .any 21, .take 22, .any 23, .take 24, .any 25, .any 26, .any 27, .any 28, .take 29, .any 30, .any 31, .take 32, .one 33, .any 34, .any 35] (by kernel_rfl) (by kernel_rfl) hS ?_
  refine Rg.p 12 ?_ ?_ rfl rfl (fun _ _ _ h => h) (by rfl) ?_ ?_ ?_; rotate_left 2; (intro w'; go_simp; with_reducible rfl); (simp only [Rg.pq, Rg.pz, Rg.ps]; rfl)
  refine Rg.p 13 ?_ ?_ rfl rfl (fun _ _ _ h => h) (by rfl) ?_ ?_ ?_; rotate_left 2; (intro w'; go_simp; with_reducible rfl); (simp only [Rg.pq, Rg.pz, Rg.ps]; rfl)
  refine Rg.p 14 ?_ ?_ rfl rfl (fun _ _ _ h => h) (by rfl) ?_ ?_ ?_; rotate_left 2; (intro w'; go_simp; with_reducible rfl); (simp only [Rg.pq, Rg.pz, Rg.ps]; rfl)
  refine Rg.t 15 ?_ ?_ rfl rfl (fun _ _ _ h => h) (by assumption) (by rfl) ?_ ?_ ?_; rotate_left 2; (rintro w' ⟨s0, s1, s2, s3, s4, s5, s6, s7, s8⟩; go_simp; with_reducible rfl); (simp only [Rg.pq, Rg.pz, Rg.ps]; rfl)
  refine Rg.p 16 ?_ ?_ rfl rfl (fun _ _ _ h => h) (by rfl) ?_ ?_ ?_; rotate_left 2; (intro w'; go_simp; with_reducible rfl); (simp only [Rg.pq, Rg.pz, Rg.ps]; rfl)
  refine Rg.p 17 ?_ ?_ rfl rfl (fun _ _ _ h => h) (by rfl) ?_ ?_ ?_; rotate_left 2; (intro w'; go_simp; with_reducible rfl); (simp only [Rg.pq, Rg.pz, Rg.ps]; rfl)
  refine Rg.p 18 ?_ ?_ rfl rfl (fun _ _ _ h => h) (by rfl) ?_ ?_ ?_; rotate_left 2; (intro w'; go_simp; with_reducible rfl); (simp only [Rg.pq, Rg.pz, Rg.ps]; rfl)
  refine Rg.p 19 ?_ ?_ rfl rfl (fun _ _ _ h => h) (by rfl) ?_ ?_ ?_; rotate_left 2; (intro w'; go_simp; with_reducible rfl); (simp only [Rg.pq, Rg.pz, Rg.ps]; rfl)
  refine Rg.t 20 ?_ ?_ rfl rfl (fun _ _ _ h => h) (by assumption) (by rfl) ?_ ?_ ?_; rotate_left 2; (rintro w' ⟨s0, s1, s2, s3, s4, s5, s6, s7, s8⟩; go_simp; with_reducible rfl); (simp only [Rg.pq, Rg.pz, Rg.ps]; rfl)
  refine Rg.p 21 ?_ ?_ rfl rfl (fun _ _ _ h => h) (by rfl) ?_ ?_ ?_; rotate_left 2; (intro w'; go_simp; with_reducible rfl); (simp only [Rg.pq, Rg.pz, Rg.ps]; rfl)
  refine Rg.t 22 ?_ ?_ rfl rfl (fun _ _ _ h => h) (by assumption) (by rfl) ?_ ?_ ?_; rotate_left 2; (rintro w' ⟨s0, s1, s2, s3, s4, s5, s6, s7, s8⟩; go_simp; with_reducible rfl); (simp only [Rg.pq, Rg.pz, Rg.ps]; rfl)
  refine Rg.p 23 ?_ ?_ rfl rfl (fun _ _ _ h => h) (by rfl) ?_ ?_ ?_; rotate_left 2; (intro w'; go_simp; with_reducible rfl); (simp only [Rg.pq, Rg.pz, Rg.ps]; rfl)
  refine Rg.p 24 ?_ ?_ rfl rfl (fun _ _ _ h => h) (by rfl) ?_ ?_ ?_; rotate_left 2; (intro w'; go_simp; with_reducible rfl); (simp only [Rg.pq, Rg.pz, Rg.ps]; rfl)
  refine Rg.p 25 ?_ ?_ rfl rfl (fun _ _ _ h => h) (by rfl) ?_ ?_ ?_; rotate_left 2; (intro w'; go_simp; with_reducible rfl); (simp only [Rg.pq, Rg.pz, Rg.ps]; rfl)
  refine Rg.p 26 ?_ ?_ rfl rfl (fun _ _ _ h => h) (by rfl) ?_ ?_ ?_; rotate_left 2; (intro w'; go_simp; with_reducible rfl); (simp only [Rg.pq, Rg.pz, Rg.ps]; rfl)
  refine Rg.t 27 ?_ ?_ rfl rfl (fun _ _ _ h => h) (by assumption) (by rfl) ?_ ?_ ?_; rotate_left 2; (rintro w' ⟨s0, s1, s2, s3, s4, s5, s6, s7, s8⟩; go_simp; with_reducible rfl); (simp only [Rg.pq, Rg.pz, Rg.ps]; rfl)
  refine Rg.p 28 ?_ ?_ rfl rfl (fun _ _ _ h => h) (by rfl) ?_ ?_ ?_; rotate_left 2; (intro w'; go_simp; with_reducible rfl); (simp only [Rg.pq, Rg.pz, Rg.ps]; rfl)
  refine Rg.t 29 ?_ ?_ rfl rfl (fun _ _ _ h => h) (by assumption) (by rfl) ?_ ?_ ?_; rotate_left 2; (rintro w' ⟨s0, s1, s2, s3, s4, s5, s6, s7, s8⟩; go_simp; with_reducible rfl); (simp only [Rg.pq, Rg.pz, Rg.ps]; rfl)
  refine Rg.p 30 ?_ ?_ rfl rfl (fun _ _ _ h => h) (by rfl) ?_ ?_ ?_; rotate_left 2; (intro w'; go_simp; with_reducible rfl); (simp only [Rg.pq, Rg.pz, Rg.ps]; rfl)
  refine Rg.p 31 ?_ ?_ rfl rfl (fun _ _ _ h => h) (by rfl) ?_ ?_ ?_; rotate_left 2; (intro w'; go_simp; with_reducible rfl); (simp only [Rg.pq, Rg.pz, Rg.ps]; rfl)
  refine Rg.p 32 ?_ ?_ rfl rfl (fun _ _ _ h => h) (by rfl) ?_ ?_ ?_; rotate_left 2; (intro w'; go_simp; with_reducible rfl); (simp only [Rg.pq, Rg.pz, Rg.ps]; rfl)
  refine Rg.p 33 ?_ ?_ rfl rfl (fun _ _ _ h => h) (by rfl) ?_ ?_ ?_; rotate_left 2; (intro w'; go_simp; with_reducible rfl); (simp only [Rg.pq, Rg.pz, Rg.ps]; rfl)
  refine Rg.t 34 ?_ ?_ rfl rfl (fun _ _ _ h => h) (by assumption) (by rfl) ?_ ?_ ?_; rotate_left 2; (rintro w' ⟨s0, s1, s2, s3, s4, s5, s6, s7, s8⟩; go_simp; with_reducible rfl); (simp only [Rg.pq, Rg.pz, Rg.ps]; rfl)
  refine Rg.p 35 ?_ ?_ rfl rfl (fun _ _ _ h => h) (by rfl) ?_ ?_ ?_; rotate_left 2; (intro w'; go_simp; with_reducible rfl); (simp only [Rg.pq, Rg.pz, Rg.ps]; rfl)
  refine Rg.t 36 ?_ ?_ rfl rfl (fun _ _ _ h => h) (by assumption) (by rfl) ?_ ?_ ?_; rotate_left 2; (rintro w' ⟨s0, s1, s2, s3, s4, s5, s6, s7, s8⟩; go_simp; with_reducible rfl); (simp only [Rg.pq, Rg.pz, Rg.ps]; rfl)
  refine Rg.p 37 ?_ ?_ rfl rfl (fun _ _ _ h => h) (by rfl) ?_ ?_ ?_; rotate_left 2; (intro w'; go_simp; with_reducible rfl); (simp only [Rg.pq, Rg.pz, Rg.ps]; rfl)
  refine Rg.p 38 ?_ ?_ rfl rfl (fun _ _ _ h => h) (by rfl) ?_ ?_ ?_; rotate_left 2; (intro w'; go_simp; with_reducible rfl); (simp only [Rg.pq, Rg.pz, Rg.ps]; rfl)
  refine Rg.p 39 ?_ ?_ rfl rfl (fun _ _ _ h => h) (by rfl) ?_ ?_ ?_; rotate_left 2; (intro w'; go_simp; with_reducible rfl); (simp only [Rg.pq, Rg.pz, Rg.ps]; rfl)
  refine Rg.p 40 ?_ ?_ rfl rfl (fun _ _ _ h => h) (by rfl) ?_ ?_ ?_; rotate_left 2; (intro w'; go_simp; with_reducible rfl); (simp only [Rg.pq, Rg.pz, Rg.ps]; rfl)
  refine Rg.t 41 ?_ ?_ rfl rfl (fun _ _ _ h => h) (by assumption) (by rfl) ?_ ?_ ?_; rotate_left 2; (rintro w' ⟨s0, s1, s2, s3, s4, s5, s6, s7, s8⟩; go_simp; with_reducible rfl); (simp only [Rg.pq, Rg.pz, Rg.ps]; rfl)
  refine Rg.p 42 ?_ ?_ rfl rfl (fun _ _ _ h => h) (by rfl) ?_ ?_ ?_; rotate_left 2; (intro w'; go_simp; with_reducible rfl); (simp only [Rg.pq, Rg.pz, Rg.ps]; rfl)
  refine Rg.p 43 ?_ ?_ rfl rfl (fun _ _ _ h => h) (by rfl) ?_ ?_ ?_; rotate_left 2; (intro w'; go_simp; with_reducible rfl); (simp only [Rg.pq, Rg.pz, Rg.ps]; rfl)
  refine Rg.t 44 ?_ ?_ rfl rfl (fun _ _ _ h => h) (by assumption) (by rfl) ?_ ?_ ?_; rotate_left 2; (rintro w' ⟨s0, s1, s2, s3, s4, s5, s6, s7, s8⟩; go_simp; with_reducible rfl); (simp only [Rg.pq, Rg.pz, Rg.ps]; rfl)
  refine Rg.s_call (N := some 45) rfl rfl Tryd.func97 (by kernel_rfl) rfl #[.int .i64 x.f0] (by rfl) rfl (by (try simp only [List.map_toArray, List.map_cons, List.map_nil]); first | done | rfl) ?_
  refine (kids_calls x.f0 _).mono ?_
  rintro e w2 ⟨rfl, hb2⟩
  have hS2 := hS.below hb2
  have hB2 := below_next ((hB1.alloc hB1.size _).drew) (by simp) hb2
  clear hS hB1 hb2
  refine ⟨hS2, ?_⟩
  refine Rg.s_norm (a' := ?_) ?_ ?_; rotate_left; (simp only [Act.put, List.setIfInBounds_toArray, List.set_cons_zero, List.set_cons_succ]; rfl)
  refine Rg.p 46 ?_ ?_ rfl rfl (fun _ _ _ h => h) (by rfl) ?_ ?_ ?_; rotate_left 2; (intro w'; go_simp; with_reducible rfl); (simp only [Rg.pq, Rg.pz, Rg.ps]; rfl)
  refine Rg.p 47 ?_ ?_ rfl rfl (fun _ _ _ h => h) (by rfl) ?_ ?_ ?_; rotate_left 2; (intro w'; go_simp; with_reducible rfl); (simp only [Rg.pq, Rg.pz, Rg.ps]; rfl)
  refine Rg.s_done ?_
  go_wp2_with fail
  go_ret
  exact ⟨rfl, hB2⟩
set_option maxRecDepth 100000 in
theorem clo_expr (n : Nat) (level : Int) (hl0 : 0 ≤ level) (hl1 : level ≤ 1000)
    (y : S40) (IH : ∀ (A4 : Option Addr) (c4 : Nat) (w1 : World), Gl w1 → Kd.C k40 w1 A4 y.f4.length y.f4 → y.f4.length ≤ c4 → Calls Tryd.prog 80 #[exV A4 c4 y, .int .i64 (level + 1)] w1 fun e w2 => e = .returned (.bool (exprB n y)) ∧ Below w1.heap.size w1 w2)
    (g : Nat) (A4 : Option Addr) (c4 : Nat) (w1 : World) (hG : Gl w1) (hg : w1.cell? ⟨g, 0, none⟩ = some (.int .i64 level)) (hC : Kd.C k40 w1 A4 y.f4.length y.f4) (hc : y.f4.length ≤ c4) :
    Calls Tryd.prog 98 #[exV A4 c4 y, .pointer (some ⟨g, 0, none⟩)] w1 fun e w2 => e = .returned (.bool (!(exprB n y))) ∧ Below w1.heap.size w1 w2 := by
  have HC := Lib.hid hC
  have HG := Lib.hid hG
  have HB := Lib.hid (Below.refl w1.heap.size w1)
  clear hC hG
  have hb1 := HB.out.alloc (Nat.le_refl _) (.cells #[.int .i64 y.f0, .int .i64 y.f1, .int .u64 y.f2, .string y.f3, .slice A4 y.f4.length c4] 40)
  have hg2 := (hb1.cell (World.block_lt_of_cell? w1 _ hg)).trans hg
  go_enter Tryd.func98, Tryd.ntmps98
  unfold exV
  go_wp2_with fail
  refine (IH A4 c4 _ (HG.out.below hb1) (Kd.C_below HC.out hb1) hc).mono ?_
  rintro e w2 ⟨rfl, hb2⟩
  have hb3 := below_next hb1 (by simp) hb2
  clear hb1 hb2 HB
  go_wp2_with fail
  go_ret
  exact ⟨rfl, hb3⟩
end Go.Proofs.YtlhnfgnihakcfaaDoor.Ax
set_option linter.unusedSimpArgs false
set_option linter.unusedVariables false
namespace Go.Proofs.YtlhnfgnihakcfaaDoor.Ax
open Go.RowKit Hp Kn Lx
open Go.Proofs.YtlhnfgnihakcfaaDoorW.PrintWords Go.Proofs.YtlhnfgnihakcfaaDoorW.PrintLast Go.Proofs.YtlhnfgnihakcfaaDoorW.PrintMore
inductive OkE : S40 → Prop
  | mk {x : S40} (h0 : 0 ≤ x.f2) (h1 : x.f2 < 18446744073709551616) (h3 : x.f3.size ≤ 140737488351232) (h4 : x.f4.length ≤ 140737488351232) (hk : ∀ y ∈ x.f4, OkE y) : OkE x
def IHx (n : Nat) (level : Int) : Prop := ∀ (y : S40), OkE y → ∀ (A4 : Option Addr) (c4 : Nat) (w1 : World), Gl w1 → Kd.C k40 w1 A4 y.f4.length y.f4 → y.f4.length ≤ c4 → Calls Tryd.prog 80 #[exV A4 c4 y, .int .i64 (level + 1)] w1 fun e w2 => e = .returned (.bool (exprB n y)) ∧ Below w1.heap.size w1 w2
theorem all_not {n : Nat} (l : List S40) : (!(l.any fun y => !(exprB n y))) = l.all (exprB n) := by induction l with
  | nil => rfl
  | cons a l ih => simp only [List.any_cons, List.all_cons, Bool.not_or, Bool.not_not, ih]
set_option maxRecDepth 100000 in
set_option maxHeartbeats 4000000 in
theorem expr_yes (n : Nat) (x : S40) (hO : OkE x) (level : Int) (hl0 : 0 ≤ level) (hl1 : level ≤ 1000) (IH : IHx n level) (A : Option Addr) (c : Nat) (w : World) (hG : Gl w) (hC : Kd.C k40 w A x.f4.length x.f4) (hc : x.f4.length ≤ c)
    (hk : known x.f0 = true) (h1 : decide (24 < level) = false) (h2 : (bareOp x != x.f1) = false) (h3 : (bareNum x != x.f2) = false) (h4 : ((bareName x).toList == x.f3.toList) = true) (h5 : ((x.f4.length : Int) != kidsN x.f0) = false) :
    Calls Tryd.prog 80 #[exV A c x, .int .i64 level] w fun e w' => e = .returned (.bool (kindOk x && x.f4.all (exprB n))) ∧ Below w.heap.size w w' := by
  have HG := Lib.hid hG
  have HC := Lib.hid hC
  have HI := Lib.hid IH
  have HO := Lib.hid hO
  have HKN := Lib.hid (show x.f0 = 1 ∨ x.f0 = 2 ∨ x.f0 = 3 ∨ x.f0 = 4 ∨ x.f0 = 5 ∨ x.f0 = 6 from by simp only [known, Bool.or_eq_true, beq_iff_eq] at hk; omega)
  clear hG hC IH hO
  have HB := Lib.hid (Below.refl w.heap.size w)
  go_enter Tryd.func80, Tryd.ntmps80
  unfold exV
  go_wp2_with fail
  refine (bare_calls x A c _).mono ?_
  rintro e w1 ⟨rfl, hb⟩
  rw [hk]
  have b0 : Blk w1 w.heap.size [.int .i64 x.f0, .int .i64 x.f1, .int .u64 x.f2, .string x.f3, .slice A x.f4.length c] 40 := Blk.below (Blk.alloc (Blk.alloc_new w _ _) _) hb (by simp; omega)
  have b1 : Blk w1 (w.heap.size + 1) [.int .i64 level] 3 := Blk.below (second_new w _ [.int .i64 level] 3) hb (by simp)
  have hB1 : Below w.heap.size w w1 := below_next ((HB.out.alloc (Nat.le_refl _) _).alloc (by simp) _) (by simp) hb
  have hS : Cells w.heap.size (w.heap.size + 1) w1.heap.size x A c level ((w1.alloc (.cells #[.int .i64 x.f0, .int .i64 (bareOp x), .int .u64 (bareNum x), .string (bareName x), .slice none 0 0] 40)).drew) := Cells.mk ((b0.alloc _).drew) ((b1.alloc _).drew) (Blk.alloc_new w1 _ _).drew
  have hlt0 : w.heap.size < w1.heap.size := b0.lt
  clear hb HB b0 b1
  go_wp2_with fail
  refine Rg.region_steps (S := Cells w.heap.size (w.heap.size + 1) w1.heap.size x A c level) [.any 0, .any 1, .any 2, .take 3, .any 4, .any 5, .any 6, .any 7, .take 8, .any 9, .take 10, .any 11, .any 12, .any 13, .any 14, .take 15, .any 16, .take 17, .any 18, .any 19, .any 20, .any 21, .take 22, .any 23, .take 24, .any 25, .any 26, .any 27, .any 28, .take 29, .any 30, .any 31, .take 32, .one 33, .any 34, .any 35] (by kernel_rfl) (by kernel_rfl) hS ?_
  refine Rg.p 12 ?_ ?_ rfl rfl (fun _ _ _ h => h) (by rfl) ?_ ?_ ?_; rotate_left 2; (intro w'; go_simp; with_reducible rfl); (simp only [Rg.pq, Rg.pz, Rg.ps]; rfl)
  refine Rg.p 13 ?_ ?_ rfl rfl (fun _ _ _ h => h) (by rfl) ?_ ?_ ?_; rotate_left 2; (intro w'; go_simp; with_reducible rfl); (simp only [Rg.pq, Rg.pz, Rg.ps]; rfl)
  refine Rg.p 14 ?_ ?_ rfl rfl (fun _ _ _ h => h) (by rfl) ?_ ?_ ?_; rotate_left 2; (intro w'; go_simp; with_reducible rfl); (simp only [Rg.pq, Rg.pz, Rg.ps]; rfl)
  refine Rg.t 15 ?_ ?_ rfl rfl (fun _ _ _ h => h) (by assumption) (by rfl) ?_ ?_ ?_; rotate_left 2; (rintro w' ⟨s0, s1, s2, s3, s4, s5, s6, s7, s8⟩; go_simp; with_reducible rfl); (simp only [Rg.pq, Rg.pz, Rg.ps]; rfl)
  refine Rg.p 16 ?_ ?_ rfl rfl (fun _ _ _ h => h) (by rfl) ?_ ?_ ?_; rotate_left 2; (intro w'; go_simp; with_reducible rfl); (simp only [Rg.pq, Rg.pz, Rg.ps]; rfl)
  refine Rg.p 17 ?_ ?_ rfl rfl (fun _ _ _ h => h) (by rfl) ?_ ?_ ?_; rotate_left 2; (intro w'; go_simp; with_reducible rfl); (simp only [Rg.pq, Rg.pz, Rg.ps]; rfl)
  refine Rg.p 18 ?_ ?_ rfl rfl (fun _ _ _ h => h) (by rfl) ?_ ?_ ?_; rotate_left 2; (intro w'; go_simp; with_reducible rfl); (simp only [Rg.pq, Rg.pz, Rg.ps]; rfl)
  refine Rg.p 19 ?_ ?_ rfl rfl (fun _ _ _ h => h) (by rfl) ?_ ?_ ?_; rotate_left 2; (intro w'; go_simp; with_reducible rfl); (simp only [Rg.pq, Rg.pz, Rg.ps]; rfl)
  refine Rg.t 20 ?_ ?_ rfl rfl (fun _ _ _ h => h) (by assumption) (by rfl) ?_ ?_ ?_; rotate_left 2; (rintro w' ⟨s0, s1, s2, s3, s4, s5, s6, s7, s8⟩; go_simp; with_reducible rfl); (simp only [Rg.pq, Rg.pz, Rg.ps]; rfl)
  refine Rg.p 21 ?_ ?_ rfl rfl (fun _ _ _ h => h) (by rfl) ?_ ?_ ?_; rotate_left 2; (intro w'; go_simp; with_reducible rfl); (simp only [Rg.pq, Rg.pz, Rg.ps]; rfl)
  refine Rg.t 22 ?_ ?_ rfl rfl (fun _ _ _ h => h) (by assumption) (by rfl) ?_ ?_ ?_; rotate_left 2; (rintro w' ⟨s0, s1, s2, s3, s4, s5, s6, s7, s8⟩; go_simp; with_reducible rfl); (simp only [Rg.pq, Rg.pz, Rg.ps]; rfl)
  refine Rg.p 23 ?_ ?_ rfl rfl (fun _ _ _ h => h) (by rfl) ?_ ?_ ?_; rotate_left 2; (intro w'; go_simp; with_reducible rfl); (simp only [Rg.pq, Rg.pz, Rg.ps]; rfl)
  refine Rg.p 24 ?_ ?_ rfl rfl (fun _ _ _ h => h) (by rfl) ?_ ?_ ?_; rotate_left 2; (intro w'; go_simp; with_reducible rfl); (simp only [Rg.pq, Rg.pz, Rg.ps]; rfl)
  refine Rg.p 25 ?_ ?_ rfl rfl (fun _ _ _ h => h) (by rfl) ?_ ?_ ?_; rotate_left 2; (intro w'; go_simp; with_reducible rfl); (simp only [Rg.pq, Rg.pz, Rg.ps]; rfl)
  refine Rg.p 26 ?_ ?_ rfl rfl (fun _ _ _ h => h) (by rfl) ?_ ?_ ?_; rotate_left 2; (intro w'; go_simp; with_reducible rfl); (simp only [Rg.pq, Rg.pz, Rg.ps]; rfl)
  refine Rg.t 27 ?_ ?_ rfl rfl (fun _ _ _ h => h) (by assumption) (by rfl) ?_ ?_ ?_; rotate_left 2; (rintro w' ⟨s0, s1, s2, s3, s4, s5, s6, s7, s8⟩; go_simp; with_reducible rfl); (simp only [Rg.pq, Rg.pz, Rg.ps]; rfl)
  refine Rg.p 28 ?_ ?_ rfl rfl (fun _ _ _ h => h) (by rfl) ?_ ?_ ?_; rotate_left 2; (intro w'; go_simp; with_reducible rfl); (simp only [Rg.pq, Rg.pz, Rg.ps]; rfl)
  refine Rg.t 29 ?_ ?_ rfl rfl (fun _ _ _ h => h) (by assumption) (by rfl) ?_ ?_ ?_; rotate_left 2; (rintro w' ⟨s0, s1, s2, s3, s4, s5, s6, s7, s8⟩; go_simp; with_reducible rfl); (simp only [Rg.pq, Rg.pz, Rg.ps]; rfl)
  refine Rg.p 30 ?_ ?_ rfl rfl (fun _ _ _ h => h) (by rfl) ?_ ?_ ?_; rotate_left 2; (intro w'; go_simp; with_reducible rfl); (simp only [Rg.pq, Rg.pz, Rg.ps]; rfl)
  refine Rg.p 31 ?_ ?_ rfl rfl (fun _ _ _ h => h) (by rfl) ?_ ?_ ?_; rotate_left 2; (intro w'; go_simp; with_reducible rfl); (simp only [Rg.pq, Rg.pz, Rg.ps]; rfl)
  refine Rg.p 32 ?_ ?_ rfl rfl (fun _ _ _ h => h) (by rfl) ?_ ?_ ?_; rotate_left 2; (intro w'; go_simp; with_reducible rfl); (simp only [Rg.pq, Rg.pz, Rg.ps]; rfl)
  refine Rg.p 33 ?_ ?_ rfl rfl (fun _ _ _ h => h) (by rfl) ?_ ?_ ?_; rotate_left 2; (intro w'; go_simp; with_reducible rfl); (simp only [Rg.pq, Rg.pz, Rg.ps]; rfl)
  refine Rg.t 34 ?_ ?_ rfl rfl (fun _ _ _ h => h) (by assumption) (by rfl) ?_ ?_ ?_; rotate_left 2; (rintro w' ⟨s0, s1, s2, s3, s4, s5, s6, s7, s8⟩; go_simp; with_reducible rfl); (simp only [Rg.pq, Rg.pz, Rg.ps]; rfl)
  refine Rg.p 35 ?_ ?_ rfl rfl (fun _ _ _ h => h) (by rfl) ?_ ?_ ?_; rotate_left 2; (intro w'; go_simp; with_reducible rfl); (simp only [Rg.pq, Rg.pz, Rg.ps]; rfl)
  refine Rg.t 36 ?_ ?_ rfl rfl (fun _ _ _ h => h) (by assumption) (by rfl) ?_ ?_ ?_; rotate_left 2; (rintro w' ⟨s0, s1, s2, s3, s4, s5, s6, s7, s8⟩; go_simp; with_reducible rfl); (simp only [Rg.pq, Rg.pz, Rg.ps]; rfl)
  refine Rg.p 37 ?_ ?_ rfl rfl (fun _ _ _ h => h) (by rfl) ?_ ?_ ?_; rotate_left 2; (intro w'; go_simp; with_reducible rfl); (simp only [Rg.pq, Rg.pz, Rg.ps]; rfl)
  refine Rg.p 38 ?_ ?_ rfl rfl (fun _ _ _ h => h) (by rfl) ?_ ?_ ?_; rotate_left 2; (intro w'; go_simp; with_reducible rfl); (simp only [Rg.pq, Rg.pz, Rg.ps]; rfl)
  refine Rg.p 39 ?_ ?_ rfl rfl (fun _ _ _ h => h) (by rfl) ?_ ?_ ?_; rotate_left 2; (intro w'; go_simp; with_reducible rfl); (simp only [Rg.pq, Rg.pz, Rg.ps]; rfl)
  refine Rg.p 40 ?_ ?_ rfl rfl (fun _ _ _ h => h) (by rfl) ?_ ?_ ?_; rotate_left 2; (intro w'; go_simp; with_reducible rfl); (simp only [Rg.pq, Rg.pz, Rg.ps]; rfl)
  refine Rg.t 41 ?_ ?_ rfl rfl (fun _ _ _ h => h) (by assumption) (by rfl) ?_ ?_ ?_; rotate_left 2; (rintro w' ⟨s0, s1, s2, s3, s4, s5, s6, s7, s8⟩; go_simp; with_reducible rfl); (simp only [Rg.pq, Rg.pz, Rg.ps]; rfl)
  refine Rg.p 42 ?_ ?_ rfl rfl (fun _ _ _ h => h) (by rfl) ?_ ?_ ?_; rotate_left 2; (intro w'; go_simp; with_reducible rfl); (simp only [Rg.pq, Rg.pz, Rg.ps]; rfl)
  refine Rg.p 43 ?_ ?_ rfl rfl (fun _ _ _ h => h) (by rfl) ?_ ?_ ?_; rotate_left 2; (intro w'; go_simp; with_reducible rfl); (simp only [Rg.pq, Rg.pz, Rg.ps]; rfl)
  refine Rg.t 44 ?_ ?_ rfl rfl (fun _ _ _ h => h) (by assumption) (by rfl) ?_ ?_ ?_; rotate_left 2; (rintro w' ⟨s0, s1, s2, s3, s4, s5, s6, s7, s8⟩; go_simp; with_reducible rfl); (simp only [Rg.pq, Rg.pz, Rg.ps]; rfl)
  refine Rg.s_call (N := some 45) rfl rfl Tryd.func97 (by kernel_rfl) rfl #[.int .i64 x.f0] (by rfl) rfl (by (try simp only [List.map_toArray, List.map_cons, List.map_nil]); first | done | rfl) ?_
  refine (kids_calls x.f0 _).mono ?_
  rintro e w2 ⟨rfl, hb2⟩
  have hS2 := hS.below hb2
  have hB2 := below_next ((hB1.alloc hB1.size _).drew) (by simp) hb2
  clear hS hB1 hb2
  refine ⟨hS2, ?_⟩
  refine Rg.s_norm (a' := ?_) ?_ ?_; rotate_left; (simp only [Act.put, List.setIfInBounds_toArray, List.set_cons_zero, List.set_cons_succ]; rfl)
  refine Rg.p 46 ?_ ?_ rfl rfl (fun _ _ _ h => h) (by rfl) ?_ ?_ ?_; rotate_left 2; (intro w'; go_simp; with_reducible rfl); (simp only [Rg.pq, Rg.pz, Rg.ps]; rfl)
  refine Rg.p 47 ?_ ?_ rfl rfl (fun _ _ _ h => h) (by rfl) ?_ ?_ ?_; rotate_left 2; (intro w'; go_simp; with_reducible rfl); (simp only [Rg.pq, Rg.pz, Rg.ps]; rfl)
  refine Rg.s_done ?_
  clear h2 h3 h4 h5
  obtain ⟨s0, s1, s2, s3, s4, s5, s6, s7, s8⟩ := hS2
  rcases HKN.out with hf | hf | hf | hf | hf | hf
  · have HF := Lib.hid hf
    clear hf
    have e1 : (x.f0 == 1) = true := by rw [HF.out]; rfl
    cases hq : decide (x.f2 ≤ 1152921504606846975) with
    | true =>
      have HV := Lib.hid (show kindOk x = true by simp only [kindOk, HF.out]; exact hq)
      go_wp2_with fail
      refine (contains_expr 98 Tryd.f98 #[.pointer (some ⟨w.heap.size + 1, 0, none⟩)] (fun y => !(exprB n y)) Tryd.func98 (by kernel_rfl) rfl A c x.f4 _ (Kd.C_below HC.out hB2) (by cases HO.out; assumption) (fun y hy w3 A4 c4 hb3 hC3 hc3 => clo_expr n level hl0 hl1 y (HI.out y (by cases HO.out; rename_i hk_; exact hk_ y hy)) _ A4 c4 w3 ((HG.out.below hB2).below hb3) ((hb3.cell (World.block_lt_of_cell? _ _ s5)).trans s5) hC3 hc3)).mono ?_
      rintro e w4 ⟨rfl, hb4⟩
      have hB4 := below_next hB2 (Nat.le_refl _) hb4
      clear s0 s1 s2 s3 s4 s5 s6 s7 s8
      go_wp2_with fail
      go_ret
      exact ⟨by rw [HV.out, Bool.true_and, ← all_not]; rfl, hB4⟩
    | false =>
      have HV := Lib.hid (show kindOk x = false by simp only [kindOk, HF.out]; exact hq)
      go_wp2_with fail
      go_ret
      exact ⟨by rw [HV.out]; rfl, hB2⟩
  · have HF := Lib.hid hf
    clear hf
    have e1 : (x.f0 == 1) = false := by rw [HF.out]; rfl
    have e2 : (x.f0 == 2) = true := by rw [HF.out]; rfl
    go_wp2_with fail
    refine (lexer_IsName.calls x.f3 (Px.isName x.f3.data.toList) _ (HG.out.below hB2) (by unfold lexer_IsName.f; exact if_pos (by cases HO.out; assumption))).mono ?_
    rintro e w3 ⟨rfl, hb3⟩
    have hS3 := Cells.below ⟨s0, s1, s2, s3, s4, s5, s6, s7, s8⟩ hb3
    have hB3 := below_next hB2 (Nat.le_refl _) hb3
    clear s0 s1 s2 s3 s4 s5 s6 s7 s8
    obtain ⟨s0, s1, s2, s3, s4, s5, s6, s7, s8⟩ := hS3
    cases hq : Px.isName x.f3.data.toList with
    | true =>
      have HV := Lib.hid (show kindOk x = true by simp only [kindOk, HF.out]; exact hq)
      go_wp2_with fail
      refine (contains_expr 98 Tryd.f98 #[.pointer (some ⟨w.heap.size + 1, 0, none⟩)] (fun y => !(exprB n y)) Tryd.func98 (by kernel_rfl) rfl A c x.f4 _ (Kd.C_below HC.out hB3) (by cases HO.out; assumption) (fun y hy w3 A4 c4 hb3 hC3 hc3 => clo_expr n level hl0 hl1 y (HI.out y (by cases HO.out; rename_i hk_; exact hk_ y hy)) _ A4 c4 w3 ((HG.out.below hB3).below hb3) ((hb3.cell (World.block_lt_of_cell? _ _ s5)).trans s5) hC3 hc3)).mono ?_
      rintro e w4 ⟨rfl, hb4⟩
      have hB4 := below_next hB3 (Nat.le_refl _) hb4
      clear s0 s1 s2 s3 s4 s5 s6 s7 s8
      go_wp2_with fail
      go_ret
      exact ⟨by rw [HV.out, Bool.true_and, ← all_not]; rfl, hB4⟩
    | false =>
      have HV := Lib.hid (show kindOk x = false by simp only [kindOk, HF.out]; exact hq)
      go_wp2_with fail
      go_ret
      exact ⟨by rw [HV.out]; rfl, hB3⟩
  · have HF := Lib.hid hf
    clear hf
    have e1 : (x.f0 == 1) = false := by rw [HF.out]; rfl
    have e2 : (x.f0 == 2) = false := by rw [HF.out]; rfl
    have e3 : (x.f0 == 3) = true := by rw [HF.out]; rfl
    go_wp2_with fail
    refine (lexer_IsName.calls x.f3 (Px.isName x.f3.data.toList) _ (HG.out.below hB2) (by unfold lexer_IsName.f; exact if_pos (by cases HO.out; assumption))).mono ?_
    rintro e w3 ⟨rfl, hb3⟩
    have hS3 := Cells.below ⟨s0, s1, s2, s3, s4, s5, s6, s7, s8⟩ hb3
    have hB3 := below_next hB2 (Nat.le_refl _) hb3
    clear s0 s1 s2 s3 s4 s5 s6 s7 s8
    obtain ⟨s0, s1, s2, s3, s4, s5, s6, s7, s8⟩ := hS3
    cases hq : Px.isName x.f3.data.toList with
    | true =>
      have HV := Lib.hid (show kindOk x = true by simp only [kindOk, HF.out]; exact hq)
      go_wp2_with fail
      refine (contains_expr 98 Tryd.f98 #[.pointer (some ⟨w.heap.size + 1, 0, none⟩)] (fun y => !(exprB n y)) Tryd.func98 (by kernel_rfl) rfl A c x.f4 _ (Kd.C_below HC.out hB3) (by cases HO.out; assumption) (fun y hy w3 A4 c4 hb3 hC3 hc3 => clo_expr n level hl0 hl1 y (HI.out y (by cases HO.out; rename_i hk_; exact hk_ y hy)) _ A4 c4 w3 ((HG.out.below hB3).below hb3) ((hb3.cell (World.block_lt_of_cell? _ _ s5)).trans s5) hC3 hc3)).mono ?_
      rintro e w4 ⟨rfl, hb4⟩
      have hB4 := below_next hB3 (Nat.le_refl _) hb4
      clear s0 s1 s2 s3 s4 s5 s6 s7 s8
      go_wp2_with fail
      go_ret
      exact ⟨by rw [HV.out, Bool.true_and, ← all_not]; rfl, hB4⟩
    | false =>
      have HV := Lib.hid (show kindOk x = false by simp only [kindOk, HF.out]; exact hq)
      go_wp2_with fail
      go_ret
      exact ⟨by rw [HV.out]; rfl, hB3⟩
  · have HF := Lib.hid hf
    clear hf
    have e1 : (x.f0 == 1) = false := by rw [HF.out]; rfl
    have e2 : (x.f0 == 2) = false := by rw [HF.out]; rfl
    have e3 : (x.f0 == 3) = false := by rw [HF.out]; rfl
    have e4 : (x.f0 == 4) = true := by rw [HF.out]; rfl
    cases hq : decide (1 ≤ x.f1) with
    | true =>
      cases hr : decide (x.f1 ≤ 7) with
      | true =>
        have HV := Lib.hid (show kindOk x = true by simp [kindOk, HF.out]; exact ⟨of_decide_eq_true hq, of_decide_eq_true hr⟩)
        go_wp2_with fail
        refine (contains_expr 98 Tryd.f98 #[.pointer (some ⟨w.heap.size + 1, 0, none⟩)] (fun y => !(exprB n y)) Tryd.func98 (by kernel_rfl) rfl A c x.f4 _ (Kd.C_below HC.out hB2) (by cases HO.out; assumption) (fun y hy w3 A4 c4 hb3 hC3 hc3 => clo_expr n level hl0 hl1 y (HI.out y (by cases HO.out; rename_i hk_; exact hk_ y hy)) _ A4 c4 w3 ((HG.out.below hB2).below hb3) ((hb3.cell (World.block_lt_of_cell? _ _ s5)).trans s5) hC3 hc3)).mono ?_
        rintro e w4 ⟨rfl, hb4⟩
        have hB4 := below_next hB2 (Nat.le_refl _) hb4
        clear s0 s1 s2 s3 s4 s5 s6 s7 s8
        go_wp2_with fail
        go_ret
        exact ⟨by rw [HV.out, Bool.true_and, ← all_not]; rfl, hB4⟩
      | false =>
        have HV := Lib.hid (show kindOk x = false by simp [kindOk, HF.out]; intro _; have := of_decide_eq_false hr; omega)
        go_wp2_with fail
        go_ret
        exact ⟨by rw [HV.out]; rfl, hB2⟩
    | false =>
      have HV := Lib.hid (show kindOk x = false by simp [kindOk, HF.out]; intro h; exact absurd h (of_decide_eq_false hq))
      go_wp2_with fail
      go_ret
      exact ⟨by rw [HV.out]; rfl, hB2⟩
  · have HF := Lib.hid hf
    clear hf
    have e1 : (x.f0 == 1) = false := by rw [HF.out]; rfl
    have e2 : (x.f0 == 2) = false := by rw [HF.out]; rfl
    have e3 : (x.f0 == 3) = false := by rw [HF.out]; rfl
    have e4 : (x.f0 == 4) = false := by rw [HF.out]; rfl
    have HV := Lib.hid (show kindOk x = true by simp [kindOk, HF.out])
    go_wp2_with fail
    refine (contains_expr 98 Tryd.f98 #[.pointer (some ⟨w.heap.size + 1, 0, none⟩)] (fun y => !(exprB n y)) Tryd.func98 (by kernel_rfl) rfl A c x.f4 _ (Kd.C_below HC.out hB2) (by cases HO.out; assumption) (fun y hy w3 A4 c4 hb3 hC3 hc3 => clo_expr n level hl0 hl1 y (HI.out y (by cases HO.out; rename_i hk_; exact hk_ y hy)) _ A4 c4 w3 ((HG.out.below hB2).below hb3) ((hb3.cell (World.block_lt_of_cell? _ _ s5)).trans s5) hC3 hc3)).mono ?_
    rintro e w4 ⟨rfl, hb4⟩
    have hB4 := below_next hB2 (Nat.le_refl _) hb4
    clear s0 s1 s2 s3 s4 s5 s6 s7 s8
    go_wp2_with fail
    go_ret
    exact ⟨by rw [HV.out, Bool.true_and, ← all_not]; rfl, hB4⟩
  · have HF := Lib.hid hf
    clear hf
    have e1 : (x.f0 == 1) = false := by rw [HF.out]; rfl
    have e2 : (x.f0 == 2) = false := by rw [HF.out]; rfl
    have e3 : (x.f0 == 3) = false := by rw [HF.out]; rfl
    have e4 : (x.f0 == 4) = false := by rw [HF.out]; rfl
    have HV := Lib.hid (show kindOk x = true by simp [kindOk, HF.out])
    go_wp2_with fail
    refine (contains_expr 98 Tryd.f98 #[.pointer (some ⟨w.heap.size + 1, 0, none⟩)] (fun y => !(exprB n y)) Tryd.func98 (by kernel_rfl) rfl A c x.f4 _ (Kd.C_below HC.out hB2) (by cases HO.out; assumption) (fun y hy w3 A4 c4 hb3 hC3 hc3 => clo_expr n level hl0 hl1 y (HI.out y (by cases HO.out; rename_i hk_; exact hk_ y hy)) _ A4 c4 w3 ((HG.out.below hB2).below hb3) ((hb3.cell (World.block_lt_of_cell? _ _ s5)).trans s5) hC3 hc3)).mono ?_
    rintro e w4 ⟨rfl, hb4⟩
    have hB4 := below_next hB2 (Nat.le_refl _) hb4
    clear s0 s1 s2 s3 s4 s5 s6 s7 s8
    go_wp2_with fail
    go_ret
    exact ⟨by rw [HV.out, Bool.true_and, ← all_not]; rfl, hB4⟩
theorem expr_calls : ∀ (n : Nat) (x : S40), OkE x → ∀ (level : Int), level = 25 - (n : Int) → 0 ≤ level → ∀ (A : Option Addr) (c : Nat) (w : World), Gl w → Kd.C k40 w A x.f4.length x.f4 → x.f4.length ≤ c →
    Calls Tryd.prog 80 #[exV A c x, .int .i64 level] w fun e w' => e = .returned (.bool (exprB n x)) ∧ Below w.heap.size w w'
  | 0, x, hO, level, hl, h0, A, c, w, hG, hC, hc => by
    cases hk : known x.f0 with
    | false => exact expr_no0 x level A c w hk
    | true => exact expr_no1 x level A c w hk (decide_eq_true (by omega))
  | n + 1, x, hO, level, hl, h0, A, c, w, hG, hC, hc => by
    have IH : IHx n level := fun y hy A4 c4 w1 g1 g2 g3 => expr_calls n y hy (level + 1) (by omega) (by omega) A4 c4 w1 g1 g2 g3
    have hl1 : level ≤ 1000 := by omega
    have h1 : decide (24 < level) = false := decide_eq_false (by omega)
    cases hk : known x.f0 with
    | false =>
      rw [show exprB (n + 1) x = false by simp [exprB, shapeOk, hk]]
      exact expr_no0 x level A c w hk
    | true =>
    cases h2 : (bareOp x != x.f1) with
    | true =>
      rw [show exprB (n + 1) x = false by simp only [exprB, shapeOk]; have : (bareOp x == x.f1) = false := by simpa [bne] using h2
                                          simp [this]]
      exact expr_no2 x level A c w hk h1 h2
    | false =>
    cases h3 : (bareNum x != x.f2) with
    | true =>
      rw [show exprB (n + 1) x = false by simp only [exprB, shapeOk]; have : (bareNum x == x.f2) = false := by simpa [bne] using h3
                                          simp [this]]
      exact expr_no3 x level A c w hk h1 h2 h3
    | false =>
    cases h4 : ((bareName x).toList == x.f3.toList) with
    | false =>
      rw [show exprB (n + 1) x = false by simp only [exprB, shapeOk]; simp only [h4, Bool.and_false, Bool.false_and]]
      exact expr_no4 x level A c w hk h1 h2 h3 h4
    | true =>
    cases h5 : ((x.f4.length : Int) != kidsN x.f0) with
    | true =>
      rw [show exprB (n + 1) x = false by simp only [exprB, shapeOk]; have : ((x.f4.length : Int) == kidsN x.f0) = false := by simpa [bne] using h5
                                          simp only [this, Bool.and_false, Bool.false_and]]
      exact expr_no5 x level A c w hk h1 h2 h3 h4 h5
    | false =>
    have hsh : shapeOk x = true := by
      have e2 : (bareOp x == x.f1) = true := by simpa [bne] using h2
      have e3 : (bareNum x == x.f2) = true := by simpa [bne] using h3
      have e5 : ((x.f4.length : Int) == kidsN x.f0) = true := by simpa [bne] using h5
      simp only [shapeOk, hk, e2, e3, h4, e5, Bool.and_self]
    have hval : exprB (n + 1) x = (kindOk x && x.f4.all (exprB n)) := by simp only [exprB, hsh, Bool.true_and]
    rw [hval]
    exact expr_yes n x hO level h0 hl1 IH A c w hG hC hc hk h1 h2 h3 h4 h5
end Go.Proofs.YtlhnfgnihakcfaaDoor.Ax
