import Derived.Test.YtlhnfgnihakcfaaDoorZA2
import Derived.Test.YtlhnfgnihakcfaaDoorZA1
import Derived.Test.YtlhnfgnihakcfaaDoorZLx
import Derived.Test.YtlhnfgnihakcfaaDoorZShelf
import Derived.Lib.AppendIntMem
set_option linter.unusedSimpArgs false
set_option linter.unusedVariables false
namespace Go.Proofs.YtlhnfgnihakcfaaDoor.Ax
open Go.RowKit Hp Kn Lx
open Go.Proofs.YtlhnfgnihakcfaaDoorW.PrintWords Go.Proofs.YtlhnfgnihakcfaaDoorW.PrintLast Go.Proofs.YtlhnfgnihakcfaaDoorW.PrintMore
inductive OkS : S64 → Prop
  | mk {x : S64} (h1 : x.f1.size ≤ 140737488351232) (h2 : x.f2.length ≤ 140737488351232) (h3 : x.f3.length ≤ 140737488351232) (h4 : x.f4.length ≤ 140737488351232) (k2 : ∀ y ∈ x.f2, OkE y) (k3 : ∀ y ∈ x.f3, OkS y) (k4 : ∀ y ∈ x.f4, OkS y) : OkS x
def partsN (k : Int) : Int := if k = 2 ∨ k = 4 then 2 else 1
def named (k : Int) : Bool := k == 1 || k == 2 || k == 4
def shapeS (x : S64) : Bool := decide (1 ≤ x.f0) && decide (x.f0 ≤ 5) && (x.f2.length : Int) == partsN x.f0 && (if named x.f0 then Px.isName x.f1.data.toList else x.f1.toList == []) && (!decide (0 < (x.f4.length : Int)) || x.f0 == 3) && (!decide (0 < (x.f3.length : Int)) || x.f0 == 3 || x.f0 == 4)
def stmtB : Nat → S64 → Bool
  | 0, _ => false
  | n + 1, x => shapeS x && (x.f2.all (exprB n) && x.f3.all (stmtB n) && x.f4.all (stmtB n))
def IHb (n : Nat) (level : Int) : Prop := ∀ (l : List S64), (∀ y ∈ l, OkS y) → l.length ≤ 140737488351232 → ∀ (A : Option Addr) (c : Nat) (w1 : World), Gl w1 → Kd.C k64 w1 A l.length l → l.length ≤ c → Calls Tryd.prog 29 #[.slice A l.length c, .int .i64 (level + 1)] w1 fun e w2 => e = .returned (.bool (l.all (stmtB n))) ∧ Below w1.heap.size w1 w2
def SCells (g0 g1 : Nat) (x : S64) (A2 : Option Addr) (c2 : Nat) (A3 : Option Addr) (c3 : Nat) (A4 : Option Addr) (c4 : Nat) (level : Int) (W : World) : Prop :=
  W.cell? ⟨g0, 0, none⟩ = some (.int .i64 x.f0) ∧ W.cell? ⟨g0, 1, none⟩ = some (.string x.f1) ∧ W.cell? ⟨g0, 2, none⟩ = some (.slice A2 x.f2.length c2) ∧ W.cell? ⟨g0, 3, none⟩ = some (.slice A3 x.f3.length c3) ∧ W.cell? ⟨g0, 4, none⟩ = some (.slice A4 x.f4.length c4) ∧ W.cell? ⟨g1, 0, none⟩ = some (.int .i64 level)
theorem SCells.below {g0 g1 : Nat} {x : S64} {A2 : Option Addr} {c2 : Nat} {A3 : Option Addr} {c3 : Nat} {A4 : Option Addr} {c4 : Nat} {level : Int} {W W2 : World} (h : SCells g0 g1 x A2 c2 A3 c3 A4 c4 level W) (hb : Below W.heap.size W W2) : SCells g0 g1 x A2 c2 A3 c3 A4 c4 level W2 := by
  obtain ⟨s0, s1, s2, s3, s4, s5⟩ := h
  have k : ∀ (a : Addr) v, W.cell? a = some v → W2.cell? a = some v := fun a v h => (hb.cell (World.block_lt_of_cell? W _ h)).trans h
  exact ⟨k _ _ s0, k _ _ s1, k _ _ s2, k _ _ s3, k _ _ s4, k _ _ s5⟩
set_option maxRecDepth 100000 in
theorem clo_stmt (n : Nat) (level : Int) (hl0 : 0 ≤ level) (hl1 : level ≤ 1000)
    (y : S40) (IH : ∀ (A4 : Option Addr) (c4 : Nat) (w1 : World), Gl w1 → Kd.C k40 w1 A4 y.f4.length y.f4 → y.f4.length ≤ c4 → Calls Tryd.prog 80 #[exV A4 c4 y, .int .i64 (level + 1)] w1 fun e w2 => e = .returned (.bool (exprB n y)) ∧ Below w1.heap.size w1 w2)
    (g : Nat) (A4 : Option Addr) (c4 : Nat) (w1 : World) (hG : Gl w1) (hg : w1.cell? ⟨g, 0, none⟩ = some (.int .i64 level)) (hC : Kd.C k40 w1 A4 y.f4.length y.f4) (hc : y.f4.length ≤ c4) :
    Calls Tryd.prog 79 #[exV A4 c4 y, .pointer (some ⟨g, 0, none⟩)] w1 fun e w2 => e = .returned (.bool (!(exprB n y))) ∧ Below w1.heap.size w1 w2 := by
  have HC := Lib.hid hC
  have HG := Lib.hid hG
  have HB := Lib.hid (Below.refl w1.heap.size w1)
  clear hC hG
  have hb1 := HB.out.alloc (Nat.le_refl _) (.cells #[.int .i64 y.f0, .int .i64 y.f1, .int .u64 y.f2, .string y.f3, .slice A4 y.f4.length c4] 40)
  have hg2 := (hb1.cell (World.block_lt_of_cell? w1 _ hg)).trans hg
  go_enter Tryd.func79, Tryd.ntmps79
  unfold exV
  go_wp2_with fail
  refine (IH A4 c4 _ (HG.out.below hb1) (Kd.C_below HC.out hb1) hc).mono ?_
  rintro e w2 ⟨rfl, hb2⟩
  have hb3 := below_next hb1 (by simp) hb2
  clear hb1 hb2 HB
  go_wp2_with fail
  go_ret
  exact ⟨rfl, hb3⟩
set_option maxRecDepth 100000 in
theorem clo_body (n : Nat) (level : Int) (hl0 : 0 ≤ level) (hl1 : level ≤ 1000)
    (y : S64) (IH : ∀ (A2 : Option Addr) (c2 : Nat) (A3 : Option Addr) (c3 : Nat) (A4 : Option Addr) (c4 : Nat) (w1 : World), Gl w1 → Kd.C k40 w1 A2 y.f2.length y.f2 → y.f2.length ≤ c2 → Kd.C k64 w1 A3 y.f3.length y.f3 → y.f3.length ≤ c3 → Kd.C k64 w1 A4 y.f4.length y.f4 → y.f4.length ≤ c4 → Calls Tryd.prog 53 #[stV A2 c2 A3 c3 A4 c4 y, .int .i64 level] w1 fun e w2 => e = .returned (.bool (stmtB n y)) ∧ Below w1.heap.size w1 w2)
    (g : Nat) (A2 : Option Addr) (c2 : Nat) (A3 : Option Addr) (c3 : Nat) (A4 : Option Addr) (c4 : Nat) (w1 : World) (hG : Gl w1) (hg : w1.cell? ⟨g, 0, none⟩ = some (.int .i64 level)) (hC2 : Kd.C k40 w1 A2 y.f2.length y.f2) (hc2 : y.f2.length ≤ c2) (hC3 : Kd.C k64 w1 A3 y.f3.length y.f3) (hc3 : y.f3.length ≤ c3) (hC4 : Kd.C k64 w1 A4 y.f4.length y.f4) (hc4 : y.f4.length ≤ c4) :
    Calls Tryd.prog 52 #[stV A2 c2 A3 c3 A4 c4 y, .pointer (some ⟨g, 0, none⟩)] w1 fun e w2 => e = .returned (.bool (!(stmtB n y))) ∧ Below w1.heap.size w1 w2 := by
  have HC := Lib.hid (And.intro hC2 (And.intro hC3 hC4))
  have HL := Lib.hid (And.intro hc2 (And.intro hc3 hc4))
  have HG := Lib.hid hG
  have HB := Lib.hid (Below.refl w1.heap.size w1)
  clear hC2 hC3 hC4 hc2 hc3 hc4 hG
  have hb1 := HB.out.alloc (Nat.le_refl _) (.cells #[.int .i64 y.f0, .string y.f1, .slice A2 y.f2.length c2, .slice A3 y.f3.length c3, .slice A4 y.f4.length c4] 64)
  have hg2 := (hb1.cell (World.block_lt_of_cell? w1 _ hg)).trans hg
  go_enter Tryd.func52, Tryd.ntmps52
  unfold stV
  go_wp2_with fail
  refine (IH A2 c2 A3 c3 A4 c4 _ (HG.out.below hb1) (Kd.C_below HC.out.1 hb1) HL.out.1 (Kd.C_below HC.out.2.1 hb1) HL.out.2.1 (Kd.C_below HC.out.2.2 hb1) HL.out.2.2).mono ?_
  rintro e w2 ⟨rfl, hb2⟩
  have hb3 := below_next hb1 (by simp) hb2
  clear hb1 hb2 HB
  go_wp2_with fail
  go_ret
  exact ⟨rfl, hb3⟩
theorem all_not_s {n : Nat} (l : List S64) : (!(l.any fun y => !(stmtB n y))) = l.all (stmtB n) := by induction l with
  | nil => rfl
  | cons a l ih => simp only [List.any_cons, List.all_cons, Bool.not_or, Bool.not_not, ih]
set_option maxRecDepth 100000 in
theorem body_calls_ (n : Nat) (level : Int) (hl0 : 0 ≤ level) (hl1 : level ≤ 1000) (l : List S64) (hlen : l.length ≤ 140737488351232)
    (IH : ∀ y ∈ l, ∀ (A2 : Option Addr) (c2 : Nat) (A3 : Option Addr) (c3 : Nat) (A4 : Option Addr) (c4 : Nat) (w1 : World), Gl w1 → Kd.C k40 w1 A2 y.f2.length y.f2 → y.f2.length ≤ c2 → Kd.C k64 w1 A3 y.f3.length y.f3 → y.f3.length ≤ c3 → Kd.C k64 w1 A4 y.f4.length y.f4 → y.f4.length ≤ c4 → Calls Tryd.prog 53 #[stV A2 c2 A3 c3 A4 c4 y, .int .i64 level] w1 fun e w2 => e = .returned (.bool (stmtB n y)) ∧ Below w1.heap.size w1 w2)
    (A : Option Addr) (c : Nat) (w : World) (hG : Gl w) (hC : Kd.C k64 w A l.length l) (hc : l.length ≤ c) :
    Calls Tryd.prog 29 #[.slice A l.length c, .int .i64 level] w fun e w2 => e = .returned (.bool (l.all (stmtB n))) ∧ Below w.heap.size w w2 := by
  have HC := Lib.hid hC
  have HG := Lib.hid hG
  have HI := Lib.hid IH
  have HB := Lib.hid (Below.refl w.heap.size w)
  clear hC hG IH
  have hb1 := HB.out.alloc (Nat.le_refl _) (.cells #[.int .i64 level] 3)
  have s5 : (w.alloc (.cells #[.int .i64 level] 3)).cell? ⟨w.heap.size, 0, none⟩ = some (.int .i64 level) := (Blk.alloc_new w [.int .i64 level] 3).cell 0 rfl
  have HS := Lib.hid s5
  clear s5
  go_enter Tryd.func29, Tryd.ntmps29
  go_wp2_with fail
  refine (contains_stmt 52 Tryd.f52 #[.pointer (some ⟨w.heap.size, 0, none⟩)] (fun y => !(stmtB n y)) Tryd.func52 (by kernel_rfl) rfl A c l _ (Kd.C_below HC.out hb1) hlen (fun y hy w3 A2 c2 A3 c3 A4 c4 hb3 a2 b2 a3 b3 a4 b4 => clo_body n level hl0 hl1 y (HI.out y hy) _ A2 c2 A3 c3 A4 c4 w3 ((HG.out.below hb1).below hb3) ((hb3.cell (World.block_lt_of_cell? _ _ HS.out)).trans HS.out) a2 b2 a3 b3 a4 b4)).mono ?_
  rintro e w4 ⟨rfl, hb4⟩
  have hB4 := below_next hb1 (by first | exact Nat.le_refl _ | simp) hb4
  go_wp2_with fail
  go_ret
  exact ⟨by rw [← all_not_s]; rfl, hB4⟩
theorem no_of {b : Bool} {P : Prop} (h : b = true ↔ P) (hp : ¬ P) : b = false := by
  cases b with
  | false => rfl
  | true => exact absurd (h.1 rfl) hp
theorem scls_1 {x : S64} (hf : x.f0 = 1) : shapeS x = true ↔ (((x.f2.length : Int) != 1) = false ∧ Px.isName x.f1.data.toList = true ∧ x.f4.isEmpty = true ∧ x.f3.isEmpty = true) := by
  have e0 : (⟨#[]⟩ : ByteArray).toList = [] := by rw [Lib.toList_data]
  simp [shapeS, partsN, named, hf, e0, and_assoc, List.isEmpty_iff]
  try omega
theorem scls_2 {x : S64} (hf : x.f0 = 2) : shapeS x = true ↔ (((x.f2.length : Int) != 2) = false ∧ Px.isName x.f1.data.toList = true ∧ x.f4.isEmpty = true ∧ x.f3.isEmpty = true) := by
  have e0 : (⟨#[]⟩ : ByteArray).toList = [] := by rw [Lib.toList_data]
  simp [shapeS, partsN, named, hf, e0, and_assoc, List.isEmpty_iff]
  try omega
theorem scls_3 {x : S64} (hf : x.f0 = 3) : shapeS x = true ↔ (((x.f2.length : Int) != 1) = false ∧ x.f1.toList.isEmpty = true) := by
  have e0 : (⟨#[]⟩ : ByteArray).toList = [] := by rw [Lib.toList_data]
  simp [shapeS, partsN, named, hf, e0, and_assoc, List.isEmpty_iff]
  try omega
theorem scls_4 {x : S64} (hf : x.f0 = 4) : shapeS x = true ↔ (((x.f2.length : Int) != 2) = false ∧ Px.isName x.f1.data.toList = true ∧ x.f4.isEmpty = true) := by
  have e0 : (⟨#[]⟩ : ByteArray).toList = [] := by rw [Lib.toList_data]
  simp [shapeS, partsN, named, hf, e0, and_assoc, List.isEmpty_iff]
  try omega
theorem scls_5 {x : S64} (hf : x.f0 = 5) : shapeS x = true ↔ (((x.f2.length : Int) != 1) = false ∧ x.f1.toList.isEmpty = true ∧ x.f4.isEmpty = true ∧ x.f3.isEmpty = true) := by
  have e0 : (⟨#[]⟩ : ByteArray).toList = [] := by rw [Lib.toList_data]
  simp [shapeS, partsN, named, hf, e0, and_assoc, List.isEmpty_iff]
  try omega
set_option maxRecDepth 100000 in
set_option maxHeartbeats 2000000 in
theorem stmt_none (x : S64) (hO : OkS x) (level : Int) (hl0 : 0 ≤ level) (hl1 : level ≤ 1000) (A2 : Option Addr) (c2 : Nat) (A3 : Option Addr) (c3 : Nat) (A4 : Option Addr) (c4 : Nat) (w : World) (hG : Gl w) (hC2 : Kd.C k40 w A2 x.f2.length x.f2) (hc2 : x.f2.length ≤ c2) (hC3 : Kd.C k64 w A3 x.f3.length x.f3) (hc3 : x.f3.length ≤ c3) (hC4 : Kd.C k64 w A4 x.f4.length x.f4) (hc4 : x.f4.length ≤ c4) (hf : x.f0 ≠ 1 ∧ x.f0 ≠ 2 ∧ x.f0 ≠ 3 ∧ x.f0 ≠ 4 ∧ x.f0 ≠ 5) :
    Calls Tryd.prog 53 #[stV A2 c2 A3 c3 A4 c4 x, .int .i64 level] w fun e w' => e = .returned (.bool (false)) ∧ Below w.heap.size w w' := by
  have HF := Lib.hid hf
  clear hC2 hC3 hC4 hc2 hc3 hc4 hG hO hf
  have HB := Lib.hid (Below.refl w.heap.size w)
  have hB2 : Below w.heap.size w ((w.alloc (.cells #[.int .i64 x.f0, .string x.f1, .slice A2 x.f2.length c2, .slice A3 x.f3.length c3, .slice A4 x.f4.length c4] 64)).alloc (.cells #[.int .i64 level] 3)) := (HB.out.alloc (Nat.le_refl _) _).alloc (by simp) _
  have HS : Hid (SCells w.heap.size (w.heap.size + 1) x A2 c2 A3 c3 A4 c4 level ((w.alloc (.cells #[.int .i64 x.f0, .string x.f1, .slice A2 x.f2.length c2, .slice A3 x.f3.length c3, .slice A4 x.f4.length c4] 64)).alloc (.cells #[.int .i64 level] 3))) := by
    have b0 := Blk.alloc (Blk.alloc_new w [.int .i64 x.f0, .string x.f1, .slice A2 x.f2.length c2, .slice A3 x.f3.length c3, .slice A4 x.f4.length c4] 64) (.cells #[.int .i64 level] 3)
    have b1 := second_new w (.cells #[.int .i64 x.f0, .string x.f1, .slice A2 x.f2.length c2, .slice A3 x.f3.length c3, .slice A4 x.f4.length c4] 64) [.int .i64 level] 3
    exact Lib.hid ⟨b0.cell 0 rfl, b0.cell 1 rfl, b0.cell 2 rfl, b0.cell 3 rfl, b0.cell 4 rfl, b1.cell 0 rfl⟩
  have e1 : (x.f0 == 1) = false := beq_eq_false_iff_ne.2 HF.out.1
  have e2 : (x.f0 == 2) = false := beq_eq_false_iff_ne.2 HF.out.2.1
  have e3 : (x.f0 == 3) = false := beq_eq_false_iff_ne.2 HF.out.2.2.1
  have e4 : (x.f0 == 4) = false := beq_eq_false_iff_ne.2 HF.out.2.2.2.1
  have e5 : (x.f0 == 5) = false := beq_eq_false_iff_ne.2 HF.out.2.2.2.2
  go_enter Tryd.func53, Tryd.ntmps53
  unfold stV
  go_wp2_with fail
  go_ret
  exact ⟨rfl, hB2⟩
set_option maxRecDepth 100000 in
set_option maxHeartbeats 2000000 in
theorem stmt_deep (x : S64) (hO : OkS x) (level : Int) (hl0 : 0 ≤ level) (hl1 : level ≤ 1000) (A2 : Option Addr) (c2 : Nat) (A3 : Option Addr) (c3 : Nat) (A4 : Option Addr) (c4 : Nat) (w : World) (hG : Gl w) (hC2 : Kd.C k40 w A2 x.f2.length x.f2) (hc2 : x.f2.length ≤ c2) (hC3 : Kd.C k64 w A3 x.f3.length x.f3) (hc3 : x.f3.length ≤ c3) (hC4 : Kd.C k64 w A4 x.f4.length x.f4) (hc4 : x.f4.length ≤ c4) (hk : x.f0 = 1 ∨ x.f0 = 2 ∨ x.f0 = 3 ∨ x.f0 = 4 ∨ x.f0 = 5) (h1 : decide (24 < level) = true) :
    Calls Tryd.prog 53 #[stV A2 c2 A3 c3 A4 c4 x, .int .i64 level] w fun e w' => e = .returned (.bool (false)) ∧ Below w.heap.size w w' := by
  have HK := Lib.hid hk
  clear hC2 hC3 hC4 hc2 hc3 hc4 hG hO hk
  have HB := Lib.hid (Below.refl w.heap.size w)
  have hB2 : Below w.heap.size w ((w.alloc (.cells #[.int .i64 x.f0, .string x.f1, .slice A2 x.f2.length c2, .slice A3 x.f3.length c3, .slice A4 x.f4.length c4] 64)).alloc (.cells #[.int .i64 level] 3)) := (HB.out.alloc (Nat.le_refl _) _).alloc (by simp) _
  have HS : Hid (SCells w.heap.size (w.heap.size + 1) x A2 c2 A3 c3 A4 c4 level ((w.alloc (.cells #[.int .i64 x.f0, .string x.f1, .slice A2 x.f2.length c2, .slice A3 x.f3.length c3, .slice A4 x.f4.length c4] 64)).alloc (.cells #[.int .i64 level] 3))) := by
    have b0 := Blk.alloc (Blk.alloc_new w [.int .i64 x.f0, .string x.f1, .slice A2 x.f2.length c2, .slice A3 x.f3.length c3, .slice A4 x.f4.length c4] 64) (.cells #[.int .i64 level] 3)
    have b1 := second_new w (.cells #[.int .i64 x.f0, .string x.f1, .slice A2 x.f2.length c2, .slice A3 x.f3.length c3, .slice A4 x.f4.length c4] 64) [.int .i64 level] 3
    exact Lib.hid ⟨b0.cell 0 rfl, b0.cell 1 rfl, b0.cell 2 rfl, b0.cell 3 rfl, b0.cell 4 rfl, b1.cell 0 rfl⟩
  rcases HK.out with hf | hf | hf | hf | hf
  all_goals
    have HF := Lib.hid hf
    clear hf HK
    have e1 := congrArg (fun z : Int => z == 1) HF.out
    have e2 := congrArg (fun z : Int => z == 2) HF.out
    have e3 := congrArg (fun z : Int => z == 3) HF.out
    have e4 := congrArg (fun z : Int => z == 4) HF.out
    have e5 := congrArg (fun z : Int => z == 5) HF.out
    go_enter Tryd.func53, Tryd.ntmps53
    unfold stV
    go_wp2_with fail
    go_ret
    exact ⟨rfl, hB2⟩
set_option maxRecDepth 100000 in
set_option maxHeartbeats 4000000 in
theorem stmt_1 (n : Nat) (x : S64) (hO : OkS x) (level : Int) (hl0 : 0 ≤ level) (hl1 : level ≤ 1000) (IH : IHx n level) (IB : IHb n level) (A2 : Option Addr) (c2 : Nat) (A3 : Option Addr) (c3 : Nat) (A4 : Option Addr) (c4 : Nat) (w : World) (hG : Gl w) (hC2 : Kd.C k40 w A2 x.f2.length x.f2) (hc2 : x.f2.length ≤ c2) (hC3 : Kd.C k64 w A3 x.f3.length x.f3) (hc3 : x.f3.length ≤ c3) (hC4 : Kd.C k64 w A4 x.f4.length x.f4) (hc4 : x.f4.length ≤ c4) (hf : x.f0 = 1) (h1 : decide (24 < level) = false) (r : Bool) (hr : shapeS x = r) :
    Calls Tryd.prog 53 #[stV A2 c2 A3 c3 A4 c4 x, .int .i64 level] w fun e w' => e = .returned (.bool (r && (x.f2.all (exprB n) && x.f3.all (stmtB n) && x.f4.all (stmtB n)))) ∧ Below w.heap.size w w' := by
  have HC := Lib.hid (And.intro hC2 (And.intro hC3 hC4))
  have HL := Lib.hid (And.intro hc2 (And.intro hc3 hc4))
  have HG := Lib.hid hG
  have HI := Lib.hid IH
  have HJ := Lib.hid IB
  have HO := Lib.hid hO
  have HF := Lib.hid hf
  have HR := Lib.hid (hr ▸ scls_1 hf)
  clear hC2 hC3 hC4 hc2 hc3 hc4 hG IH IB hO hf hr
  have HB := Lib.hid (Below.refl w.heap.size w)
  have hB2 : Below w.heap.size w ((w.alloc (.cells #[.int .i64 x.f0, .string x.f1, .slice A2 x.f2.length c2, .slice A3 x.f3.length c3, .slice A4 x.f4.length c4] 64)).alloc (.cells #[.int .i64 level] 3)) := (HB.out.alloc (Nat.le_refl _) _).alloc (by simp) _
  have HS : Hid (SCells w.heap.size (w.heap.size + 1) x A2 c2 A3 c3 A4 c4 level ((w.alloc (.cells #[.int .i64 x.f0, .string x.f1, .slice A2 x.f2.length c2, .slice A3 x.f3.length c3, .slice A4 x.f4.length c4] 64)).alloc (.cells #[.int .i64 level] 3))) := by
    have b0 := Blk.alloc (Blk.alloc_new w [.int .i64 x.f0, .string x.f1, .slice A2 x.f2.length c2, .slice A3 x.f3.length c3, .slice A4 x.f4.length c4] 64) (.cells #[.int .i64 level] 3)
    have b1 := second_new w (.cells #[.int .i64 x.f0, .string x.f1, .slice A2 x.f2.length c2, .slice A3 x.f3.length c3, .slice A4 x.f4.length c4] 64) [.int .i64 level] 3
    exact Lib.hid ⟨b0.cell 0 rfl, b0.cell 1 rfl, b0.cell 2 rfl, b0.cell 3 rfl, b0.cell 4 rfl, b1.cell 0 rfl⟩
  have e1 : (x.f0 == 1) = true := by rw [HF.out]; rfl
  have d1 : (x.f0 != 1) = false := by rw [HF.out]; rfl
  have e2 : (x.f0 == 2) = false := by rw [HF.out]; rfl
  have d2 : (x.f0 != 2) = true := by rw [HF.out]; rfl
  have e3 : (x.f0 == 3) = false := by rw [HF.out]; rfl
  have d3 : (x.f0 != 3) = true := by rw [HF.out]; rfl
  have e4 : (x.f0 == 4) = false := by rw [HF.out]; rfl
  have d4 : (x.f0 != 4) = true := by rw [HF.out]; rfl
  have e5 : (x.f0 == 5) = false := by rw [HF.out]; rfl
  have d5 : (x.f0 != 5) = true := by rw [HF.out]; rfl
  go_enter Tryd.func53, Tryd.ntmps53
  unfold stV
  cases t0 : ((x.f2.length : Int) != 1) with
  | true =>
    have HN := Lib.hid (no_of HR.out fun h => Bool.noConfusion (t0.symm.trans h.1))
    go_wp2_with fail
    go_ret
    exact ⟨by rw [HN.out]; rfl, hB2⟩
  | false =>
  go_wp2_with fail
  refine (lexer_IsName.calls x.f1 (Px.isName x.f1.data.toList) _ (HG.out.below hB2) (by unfold lexer_IsName.f; exact if_pos (by cases HO.out; assumption))).mono ?_
  rintro e w3 ⟨rfl, hb3⟩
  have HS3 := Lib.hid (HS.out.below hb3)
  have hB3 := below_next hB2 (by simp) hb3
  clear hB2 HS
  obtain ⟨s0, s1, s2, s3, s4, s5⟩ := HS3.out
  cases t1 : Px.isName x.f1.data.toList with
  | false =>
    have HN := Lib.hid (no_of HR.out fun h => Bool.noConfusion (t1.symm.trans h.2.1))
    go_wp2_with fail
    go_ret
    exact ⟨by rw [HN.out]; rfl, hB3⟩
  | true =>
  cases t2 : x.f4.isEmpty with
  | false =>
    have HN := Lib.hid (no_of HR.out fun h => Bool.noConfusion (t2.symm.trans h.2.2.1))
    have t2p : 0 < x.f4.length := List.length_pos_iff.2 (List.isEmpty_eq_false_iff.1 t2)
    go_wp2_with fail
    go_ret
    exact ⟨by rw [HN.out]; rfl, hB3⟩
  | true =>
  have t2p : ¬ 0 < x.f4.length := by rw [List.isEmpty_iff.1 t2]; simp
  have t2k := Lib.hid t2
  clear t2
  cases t3 : x.f3.isEmpty with
  | false =>
    have HN := Lib.hid (no_of HR.out fun h => Bool.noConfusion (t3.symm.trans h.2.2.2))
    have t3p : 0 < x.f3.length := List.length_pos_iff.2 (List.isEmpty_eq_false_iff.1 t3)
    go_wp2_with fail
    go_ret
    exact ⟨by rw [HN.out]; rfl, hB3⟩
  | true =>
  have t3p : ¬ 0 < x.f3.length := by rw [List.isEmpty_iff.1 t3]; simp
  have t3k := Lib.hid t3
  clear t3
  have HN := Lib.hid (HR.out.2 ⟨t0, t1, t2k.out, t3k.out⟩)
  go_wp2_with fail
  refine (contains_expr 79 Tryd.f79 #[.pointer (some ⟨w.heap.size + 1, 0, none⟩)] (fun y => !(exprB n y)) Tryd.func79 (by kernel_rfl) rfl A2 c2 x.f2 _ (Kd.C_below HC.out.1 hB3) (by cases HO.out; assumption) (fun y hy w3 A4 c4 hb3 hC3 hc3 => clo_stmt n level hl0 hl1 y (HI.out y (by cases HO.out; rename_i k2 k3 k4; exact k2 y hy)) _ A4 c4 w3 ((HG.out.below hB3).below hb3) ((hb3.cell (World.block_lt_of_cell? _ _ HS3.out.2.2.2.2.2)).trans HS3.out.2.2.2.2.2) hC3 hc3)).mono ?_
  rintro e w4 ⟨rfl, hb4⟩
  have HS4 := Lib.hid (HS3.out.below hb4)
  have hB4 := below_next hB3 (by first | exact Nat.le_refl _ | simp) hb4
  have HE := Lib.hid (all_not (n := n) x.f2)
  clear hB3
  clear s0 s1 s2 s3 s4 s5
  obtain ⟨s0, s1, s2, s3, s4, s5⟩ := HS4.out
  cases hE : x.f2.any (fun y => !(exprB n y)) with
  | true =>
    go_wp2_with fail
    go_ret
    exact ⟨by rw [HN.out, Bool.true_and, ← HE.out, hE]; rfl, hB4⟩
  | false =>
  have HE2 := Lib.hid (show x.f2.all (exprB n) = true by rw [← HE.out, hE]; rfl)
  clear hE HE
  go_wp2_with fail
  refine (HJ.out x.f3 (by cases HO.out; assumption) (by cases HO.out; assumption) A3 c3 _ (HG.out.below hB4) (Kd.C_below HC.out.2.1 hB4) HL.out.2.1).mono ?_
  rintro e w5 ⟨rfl, hb5⟩
  have HS5 := Lib.hid (HS4.out.below hb5)
  have hB5 := below_next hB4 (Nat.le_refl _) hb5
  clear hB4 s0 s1 s2 s3 s4 s5
  obtain ⟨s0, s1, s2, s3, s4, s5⟩ := HS5.out
  cases hT : x.f3.all (stmtB n) with
  | false =>
    go_wp2_with fail
    go_ret
    exact ⟨by rw [HN.out, HE2.out, hT]; rfl, hB5⟩
  | true =>
  go_wp2_with fail
  refine (HJ.out x.f4 (by cases HO.out; assumption) (by cases HO.out; assumption) A4 c4 _ (HG.out.below hB5) (Kd.C_below HC.out.2.2 hB5) HL.out.2.2).mono ?_
  rintro e w6 ⟨rfl, hb6⟩
  have hB6 := below_next hB5 (Nat.le_refl _) hb6
  clear hB5 s0 s1 s2 s3 s4 s5
  go_wp2_with fail
  go_ret
  exact ⟨by rw [HN.out, HE2.out, hT]; rfl, hB6⟩
set_option maxRecDepth 100000 in
set_option maxHeartbeats 4000000 in
theorem stmt_2 (n : Nat) (x : S64) (hO : OkS x) (level : Int) (hl0 : 0 ≤ level) (hl1 : level ≤ 1000) (IH : IHx n level) (IB : IHb n level) (A2 : Option Addr) (c2 : Nat) (A3 : Option Addr) (c3 : Nat) (A4 : Option Addr) (c4 : Nat) (w : World) (hG : Gl w) (hC2 : Kd.C k40 w A2 x.f2.length x.f2) (hc2 : x.f2.length ≤ c2) (hC3 : Kd.C k64 w A3 x.f3.length x.f3) (hc3 : x.f3.length ≤ c3) (hC4 : Kd.C k64 w A4 x.f4.length x.f4) (hc4 : x.f4.length ≤ c4) (hf : x.f0 = 2) (h1 : decide (24 < level) = false) (r : Bool) (hr : shapeS x = r) :
    Calls Tryd.prog 53 #[stV A2 c2 A3 c3 A4 c4 x, .int .i64 level] w fun e w' => e = .returned (.bool (r && (x.f2.all (exprB n) && x.f3.all (stmtB n) && x.f4.all (stmtB n)))) ∧ Below w.heap.size w w' := by
  have HC := Lib.hid (And.intro hC2 (And.intro hC3 hC4))
  have HL := Lib.hid (And.intro hc2 (And.intro hc3 hc4))
  have HG := Lib.hid hG
  have HI := Lib.hid IH
  have HJ := Lib.hid IB
  have HO := Lib.hid hO
  have HF := Lib.hid hf
  have HR := Lib.hid (hr ▸ scls_2 hf)
  clear hC2 hC3 hC4 hc2 hc3 hc4 hG IH IB hO hf hr
  have HB := Lib.hid (Below.refl w.heap.size w)
  have hB2 : Below w.heap.size w ((w.alloc (.cells #[.int .i64 x.f0, .string x.f1, .slice A2 x.f2.length c2, .slice A3 x.f3.length c3, .slice A4 x.f4.length c4] 64)).alloc (.cells #[.int .i64 level] 3)) := (HB.out.alloc (Nat.le_refl _) _).alloc (by simp) _
  have HS : Hid (SCells w.heap.size (w.heap.size + 1) x A2 c2 A3 c3 A4 c4 level ((w.alloc (.cells #[.int .i64 x.f0, .string x.f1, .slice A2 x.f2.length c2, .slice A3 x.f3.length c3, .slice A4 x.f4.length c4] 64)).alloc (.cells #[.int .i64 level] 3))) := by
    have b0 := Blk.alloc (Blk.alloc_new w [.int .i64 x.f0, .string x.f1, .slice A2 x.f2.length c2, .slice A3 x.f3.length c3, .slice A4 x.f4.length c4] 64) (.cells #[.int .i64 level] 3)
    have b1 := second_new w (.cells #[.int .i64 x.f0, .string x.f1, .slice A2 x.f2.length c2, .slice A3 x.f3.length c3, .slice A4 x.f4.length c4] 64) [.int .i64 level] 3
    exact Lib.hid ⟨b0.cell 0 rfl, b0.cell 1 rfl, b0.cell 2 rfl, b0.cell 3 rfl, b0.cell 4 rfl, b1.cell 0 rfl⟩
  have e1 : (x.f0 == 1) = false := by rw [HF.out]; rfl
  have d1 : (x.f0 != 1) = true := by rw [HF.out]; rfl
  have e2 : (x.f0 == 2) = true := by rw [HF.out]; rfl
  have d2 : (x.f0 != 2) = false := by rw [HF.out]; rfl
  have e3 : (x.f0 == 3) = false := by rw [HF.out]; rfl
  have d3 : (x.f0 != 3) = true := by rw [HF.out]; rfl
  have e4 : (x.f0 == 4) = false := by rw [HF.out]; rfl
  have d4 : (x.f0 != 4) = true := by rw [HF.out]; rfl
  have e5 : (x.f0 == 5) = false := by rw [HF.out]; rfl
  have d5 : (x.f0 != 5) = true := by rw [HF.out]; rfl
  go_enter Tryd.func53, Tryd.ntmps53
  unfold stV
  cases t0 : ((x.f2.length : Int) != 2) with
  | true =>
    have HN := Lib.hid (no_of HR.out fun h => Bool.noConfusion (t0.symm.trans h.1))
    go_wp2_with fail
    go_ret
    exact ⟨by rw [HN.out]; rfl, hB2⟩
  | false =>
  go_wp2_with fail
  refine (lexer_IsName.calls x.f1 (Px.isName x.f1.data.toList) _ (HG.out.below hB2) (by unfold lexer_IsName.f; exact if_pos (by cases HO.out; assumption))).mono ?_
  rintro e w3 ⟨rfl, hb3⟩
  have HS3 := Lib.hid (HS.out.below hb3)
  have hB3 := below_next hB2 (by simp) hb3
  clear hB2 HS
  obtain ⟨s0, s1, s2, s3, s4, s5⟩ := HS3.out
  cases t1 : Px.isName x.f1.data.toList with
  | false =>
    have HN := Lib.hid (no_of HR.out fun h => Bool.noConfusion (t1.symm.trans h.2.1))
    go_wp2_with fail
    go_ret
    exact ⟨by rw [HN.out]; rfl, hB3⟩
  | true =>
  cases t2 : x.f4.isEmpty with
  | false =>
    have HN := Lib.hid (no_of HR.out fun h => Bool.noConfusion (t2.symm.trans h.2.2.1))
    have t2p : 0 < x.f4.length := List.length_pos_iff.2 (List.isEmpty_eq_false_iff.1 t2)
    go_wp2_with fail
    go_ret
    exact ⟨by rw [HN.out]; rfl, hB3⟩
  | true =>
  have t2p : ¬ 0 < x.f4.length := by rw [List.isEmpty_iff.1 t2]; simp
  have t2k := Lib.hid t2
  clear t2
  cases t3 : x.f3.isEmpty with
  | false =>
    have HN := Lib.hid (no_of HR.out fun h => Bool.noConfusion (t3.symm.trans h.2.2.2))
    have t3p : 0 < x.f3.length := List.length_pos_iff.2 (List.isEmpty_eq_false_iff.1 t3)
    go_wp2_with fail
    go_ret
    exact ⟨by rw [HN.out]; rfl, hB3⟩
  | true =>
  have t3p : ¬ 0 < x.f3.length := by rw [List.isEmpty_iff.1 t3]; simp
  have t3k := Lib.hid t3
  clear t3
  have HN := Lib.hid (HR.out.2 ⟨t0, t1, t2k.out, t3k.out⟩)
  go_wp2_with fail
  refine (contains_expr 79 Tryd.f79 #[.pointer (some ⟨w.heap.size + 1, 0, none⟩)] (fun y => !(exprB n y)) Tryd.func79 (by kernel_rfl) rfl A2 c2 x.f2 _ (Kd.C_below HC.out.1 hB3) (by cases HO.out; assumption) (fun y hy w3 A4 c4 hb3 hC3 hc3 => clo_stmt n level hl0 hl1 y (HI.out y (by cases HO.out; rename_i k2 k3 k4; exact k2 y hy)) _ A4 c4 w3 ((HG.out.below hB3).below hb3) ((hb3.cell (World.block_lt_of_cell? _ _ HS3.out.2.2.2.2.2)).trans HS3.out.2.2.2.2.2) hC3 hc3)).mono ?_
  rintro e w4 ⟨rfl, hb4⟩
  have HS4 := Lib.hid (HS3.out.below hb4)
  have hB4 := below_next hB3 (by first | exact Nat.le_refl _ | simp) hb4
  have HE := Lib.hid (all_not (n := n) x.f2)
  clear hB3
  clear s0 s1 s2 s3 s4 s5
  obtain ⟨s0, s1, s2, s3, s4, s5⟩ := HS4.out
  cases hE : x.f2.any (fun y => !(exprB n y)) with
  | true =>
    go_wp2_with fail
    go_ret
    exact ⟨by rw [HN.out, Bool.true_and, ← HE.out, hE]; rfl, hB4⟩
  | false =>
  have HE2 := Lib.hid (show x.f2.all (exprB n) = true by rw [← HE.out, hE]; rfl)
  clear hE HE
  go_wp2_with fail
  refine (HJ.out x.f3 (by cases HO.out; assumption) (by cases HO.out; assumption) A3 c3 _ (HG.out.below hB4) (Kd.C_below HC.out.2.1 hB4) HL.out.2.1).mono ?_
  rintro e w5 ⟨rfl, hb5⟩
  have HS5 := Lib.hid (HS4.out.below hb5)
  have hB5 := below_next hB4 (Nat.le_refl _) hb5
  clear hB4 s0 s1 s2 s3 s4 s5
  obtain ⟨s0, s1, s2, s3, s4, s5⟩ := HS5.out
  cases hT : x.f3.all (stmtB n) with
  | false =>
    go_wp2_with fail
    go_ret
    exact ⟨by rw [HN.out, HE2.out, hT]; rfl, hB5⟩
  | true =>
  go_wp2_with fail
  refine (HJ.out x.f4 (by cases HO.out; assumption) (by cases HO.out; assumption) A4 c4 _ (HG.out.below hB5) (Kd.C_below HC.out.2.2 hB5) HL.out.2.2).mono ?_
  rintro e w6 ⟨rfl, hb6⟩
  have hB6 := below_next hB5 (Nat.le_refl _) hb6
  clear hB5 s0 s1 s2 s3 s4 s5
  go_wp2_with fail
  go_ret
  exact ⟨by rw [HN.out, HE2.out, hT]; rfl, hB6⟩
set_option maxRecDepth 100000 in
set_option maxHeartbeats 4000000 in
theorem stmt_3 (n : Nat) (x : S64) (hO : OkS x) (level : Int) (hl0 : 0 ≤ level) (hl1 : level ≤ 1000) (IH : IHx n level) (IB : IHb n level) (A2 : Option Addr) (c2 : Nat) (A3 : Option Addr) (c3 : Nat) (A4 : Option Addr) (c4 : Nat) (w : World) (hG : Gl w) (hC2 : Kd.C k40 w A2 x.f2.length x.f2) (hc2 : x.f2.length ≤ c2) (hC3 : Kd.C k64 w A3 x.f3.length x.f3) (hc3 : x.f3.length ≤ c3) (hC4 : Kd.C k64 w A4 x.f4.length x.f4) (hc4 : x.f4.length ≤ c4) (hf : x.f0 = 3) (h1 : decide (24 < level) = false) (r : Bool) (hr : shapeS x = r) :
    Calls Tryd.prog 53 #[stV A2 c2 A3 c3 A4 c4 x, .int .i64 level] w fun e w' => e = .returned (.bool (r && (x.f2.all (exprB n) && x.f3.all (stmtB n) && x.f4.all (stmtB n)))) ∧ Below w.heap.size w w' := by
  have HC := Lib.hid (And.intro hC2 (And.intro hC3 hC4))
  have HL := Lib.hid (And.intro hc2 (And.intro hc3 hc4))
  have HG := Lib.hid hG
  have HI := Lib.hid IH
  have HJ := Lib.hid IB
  have HO := Lib.hid hO
  have HF := Lib.hid hf
  have HR := Lib.hid (hr ▸ scls_3 hf)
  clear hC2 hC3 hC4 hc2 hc3 hc4 hG IH IB hO hf hr
  have HB := Lib.hid (Below.refl w.heap.size w)
  have hB2 : Below w.heap.size w ((w.alloc (.cells #[.int .i64 x.f0, .string x.f1, .slice A2 x.f2.length c2, .slice A3 x.f3.length c3, .slice A4 x.f4.length c4] 64)).alloc (.cells #[.int .i64 level] 3)) := (HB.out.alloc (Nat.le_refl _) _).alloc (by simp) _
  have HS : Hid (SCells w.heap.size (w.heap.size + 1) x A2 c2 A3 c3 A4 c4 level ((w.alloc (.cells #[.int .i64 x.f0, .string x.f1, .slice A2 x.f2.length c2, .slice A3 x.f3.length c3, .slice A4 x.f4.length c4] 64)).alloc (.cells #[.int .i64 level] 3))) := by
    have b0 := Blk.alloc (Blk.alloc_new w [.int .i64 x.f0, .string x.f1, .slice A2 x.f2.length c2, .slice A3 x.f3.length c3, .slice A4 x.f4.length c4] 64) (.cells #[.int .i64 level] 3)
    have b1 := second_new w (.cells #[.int .i64 x.f0, .string x.f1, .slice A2 x.f2.length c2, .slice A3 x.f3.length c3, .slice A4 x.f4.length c4] 64) [.int .i64 level] 3
    exact Lib.hid ⟨b0.cell 0 rfl, b0.cell 1 rfl, b0.cell 2 rfl, b0.cell 3 rfl, b0.cell 4 rfl, b1.cell 0 rfl⟩
  have e1 : (x.f0 == 1) = false := by rw [HF.out]; rfl
  have d1 : (x.f0 != 1) = true := by rw [HF.out]; rfl
  have e2 : (x.f0 == 2) = false := by rw [HF.out]; rfl
  have d2 : (x.f0 != 2) = true := by rw [HF.out]; rfl
  have e3 : (x.f0 == 3) = true := by rw [HF.out]; rfl
  have d3 : (x.f0 != 3) = false := by rw [HF.out]; rfl
  have e4 : (x.f0 == 4) = false := by rw [HF.out]; rfl
  have d4 : (x.f0 != 4) = true := by rw [HF.out]; rfl
  have e5 : (x.f0 == 5) = false := by rw [HF.out]; rfl
  have d5 : (x.f0 != 5) = true := by rw [HF.out]; rfl
  go_enter Tryd.func53, Tryd.ntmps53
  unfold stV
  cases t0 : ((x.f2.length : Int) != 1) with
  | true =>
    have HN := Lib.hid (no_of HR.out fun h => Bool.noConfusion (t0.symm.trans h.1))
    go_wp2_with fail
    go_ret
    exact ⟨by rw [HN.out]; rfl, hB2⟩
  | false =>
  cases t1 : x.f1.toList.isEmpty with
  | false =>
    have HN := Lib.hid (no_of HR.out fun h => Bool.noConfusion (t1.symm.trans h.2))
    go_wp2_with fail
    go_ret
    exact ⟨by rw [HN.out]; rfl, hB2⟩
  | true =>
  have HN := Lib.hid (HR.out.2 ⟨t0, t1⟩)
  by_cases h3 : 0 < x.f4.length <;> by_cases h4 : 0 < x.f3.length
  all_goals
    go_wp2_with fail
    refine (contains_expr 79 Tryd.f79 #[.pointer (some ⟨w.heap.size + 1, 0, none⟩)] (fun y => !(exprB n y)) Tryd.func79 (by kernel_rfl) rfl A2 c2 x.f2 _ (Kd.C_below HC.out.1 hB2) (by cases HO.out; assumption) (fun y hy w3 A4 c4 hb3 hC3 hc3 => clo_stmt n level hl0 hl1 y (HI.out y (by cases HO.out; rename_i k2 k3 k4; exact k2 y hy)) _ A4 c4 w3 ((HG.out.below hB2).below hb3) ((hb3.cell (World.block_lt_of_cell? _ _ HS.out.2.2.2.2.2)).trans HS.out.2.2.2.2.2) hC3 hc3)).mono ?_
    rintro e w4 ⟨rfl, hb4⟩
    have HS4 := Lib.hid (HS.out.below hb4)
    have hB4 := below_next hB2 (by first | exact Nat.le_refl _ | simp) hb4
    have HE := Lib.hid (all_not (n := n) x.f2)
    clear hB2
    obtain ⟨s0, s1, s2, s3, s4, s5⟩ := HS4.out
    cases hE : x.f2.any (fun y => !(exprB n y)) with
    | true =>
      go_wp2_with fail
      go_ret
      exact ⟨by rw [HN.out, Bool.true_and, ← HE.out, hE]; rfl, hB4⟩
    | false =>
    have HE2 := Lib.hid (show x.f2.all (exprB n) = true by rw [← HE.out, hE]; rfl)
    clear hE HE
    go_wp2_with fail
    refine (HJ.out x.f3 (by cases HO.out; assumption) (by cases HO.out; assumption) A3 c3 _ (HG.out.below hB4) (Kd.C_below HC.out.2.1 hB4) HL.out.2.1).mono ?_
    rintro e w5 ⟨rfl, hb5⟩
    have HS5 := Lib.hid (HS4.out.below hb5)
    have hB5 := below_next hB4 (Nat.le_refl _) hb5
    clear hB4 s0 s1 s2 s3 s4 s5
    obtain ⟨s0, s1, s2, s3, s4, s5⟩ := HS5.out
    cases hT : x.f3.all (stmtB n) with
    | false =>
      go_wp2_with fail
      go_ret
      exact ⟨by rw [HN.out, HE2.out, hT]; rfl, hB5⟩
    | true =>
    go_wp2_with fail
    refine (HJ.out x.f4 (by cases HO.out; assumption) (by cases HO.out; assumption) A4 c4 _ (HG.out.below hB5) (Kd.C_below HC.out.2.2 hB5) HL.out.2.2).mono ?_
    rintro e w6 ⟨rfl, hb6⟩
    have hB6 := below_next hB5 (Nat.le_refl _) hb6
    clear hB5 s0 s1 s2 s3 s4 s5
    go_wp2_with fail
    go_ret
    exact ⟨by rw [HN.out, HE2.out, hT]; rfl, hB6⟩
set_option maxRecDepth 100000 in
set_option maxHeartbeats 4000000 in
theorem stmt_4 (n : Nat) (x : S64) (hO : OkS x) (level : Int) (hl0 : 0 ≤ level) (hl1 : level ≤ 1000) (IH : IHx n level) (IB : IHb n level) (A2 : Option Addr) (c2 : Nat) (A3 : Option Addr) (c3 : Nat) (A4 : Option Addr) (c4 : Nat) (w : World) (hG : Gl w) (hC2 : Kd.C k40 w A2 x.f2.length x.f2) (hc2 : x.f2.length ≤ c2) (hC3 : Kd.C k64 w A3 x.f3.length x.f3) (hc3 : x.f3.length ≤ c3) (hC4 : Kd.C k64 w A4 x.f4.length x.f4) (hc4 : x.f4.length ≤ c4) (hf : x.f0 = 4) (h1 : decide (24 < level) = false) (r : Bool) (hr : shapeS x = r) :
    Calls Tryd.prog 53 #[stV A2 c2 A3 c3 A4 c4 x, .int .i64 level] w fun e w' => e = .returned (.bool (r && (x.f2.all (exprB n) && x.f3.all (stmtB n) && x.f4.all (stmtB n)))) ∧ Below w.heap.size w w' := by
  have HC := Lib.hid (And.intro hC2 (And.intro hC3 hC4))
  have HL := Lib.hid (And.intro hc2 (And.intro hc3 hc4))
  have HG := Lib.hid hG
  have HI := Lib.hid IH
  have HJ := Lib.hid IB
  have HO := Lib.hid hO
  have HF := Lib.hid hf
  have HR := Lib.hid (hr ▸ scls_4 hf)
  clear hC2 hC3 hC4 hc2 hc3 hc4 hG IH IB hO hf hr
  have HB := Lib.hid (Below.refl w.heap.size w)
  have hB2 : Below w.heap.size w ((w.alloc (.cells #[.int .i64 x.f0, .string x.f1, .slice A2 x.f2.length c2, .slice A3 x.f3.length c3, .slice A4 x.f4.length c4] 64)).alloc (.cells #[.int .i64 level] 3)) := (HB.out.alloc (Nat.le_refl _) _).alloc (by simp) _
  have HS : Hid (SCells w.heap.size (w.heap.size + 1) x A2 c2 A3 c3 A4 c4 level ((w.alloc (.cells #[.int .i64 x.f0, .string x.f1, .slice A2 x.f2.length c2, .slice A3 x.f3.length c3, .slice A4 x.f4.length c4] 64)).alloc (.cells #[.int .i64 level] 3))) := by
    have b0 := Blk.alloc (Blk.alloc_new w [.int .i64 x.f0, .string x.f1, .slice A2 x.f2.length c2, .slice A3 x.f3.length c3, .slice A4 x.f4.length c4] 64) (.cells #[.int .i64 level] 3)
    have b1 := second_new w (.cells #[.int .i64 x.f0, .string x.f1, .slice A2 x.f2.length c2, .slice A3 x.f3.length c3, .slice A4 x.f4.length c4] 64) [.int .i64 level] 3
    exact Lib.hid ⟨b0.cell 0 rfl, b0.cell 1 rfl, b0.cell 2 rfl, b0.cell 3 rfl, b0.cell 4 rfl, b1.cell 0 rfl⟩
  have e1 : (x.f0 == 1) = false := by rw [HF.out]; rfl
  have d1 : (x.f0 != 1) = true := by rw [HF.out]; rfl
  have e2 : (x.f0 == 2) = false := by rw [HF.out]; rfl
  have d2 : (x.f0 != 2) = true := by rw [HF.out]; rfl
  have e3 : (x.f0 == 3) = false := by rw [HF.out]; rfl
  have d3 : (x.f0 != 3) = true := by rw [HF.out]; rfl
  have e4 : (x.f0 == 4) = true := by rw [HF.out]; rfl
  have d4 : (x.f0 != 4) = false := by rw [HF.out]; rfl
  have e5 : (x.f0 == 5) = false := by rw [HF.out]; rfl
  have d5 : (x.f0 != 5) = true := by rw [HF.out]; rfl
  go_enter Tryd.func53, Tryd.ntmps53
  unfold stV
  cases t0 : ((x.f2.length : Int) != 2) with
  | true =>
    have HN := Lib.hid (no_of HR.out fun h => Bool.noConfusion (t0.symm.trans h.1))
    go_wp2_with fail
    go_ret
    exact ⟨by rw [HN.out]; rfl, hB2⟩
  | false =>
  go_wp2_with fail
  refine (lexer_IsName.calls x.f1 (Px.isName x.f1.data.toList) _ (HG.out.below hB2) (by unfold lexer_IsName.f; exact if_pos (by cases HO.out; assumption))).mono ?_
  rintro e w3 ⟨rfl, hb3⟩
  have HS3 := Lib.hid (HS.out.below hb3)
  have hB3 := below_next hB2 (by simp) hb3
  clear hB2 HS
  obtain ⟨s0, s1, s2, s3, s4, s5⟩ := HS3.out
  cases t1 : Px.isName x.f1.data.toList with
  | false =>
    have HN := Lib.hid (no_of HR.out fun h => Bool.noConfusion (t1.symm.trans h.2.1))
    go_wp2_with fail
    go_ret
    exact ⟨by rw [HN.out]; rfl, hB3⟩
  | true =>
  cases t2 : x.f4.isEmpty with
  | false =>
    have HN := Lib.hid (no_of HR.out fun h => Bool.noConfusion (t2.symm.trans h.2.2))
    have t2p : 0 < x.f4.length := List.length_pos_iff.2 (List.isEmpty_eq_false_iff.1 t2)
    go_wp2_with fail
    go_ret
    exact ⟨by rw [HN.out]; rfl, hB3⟩
  | true =>
  have t2p : ¬ 0 < x.f4.length := by rw [List.isEmpty_iff.1 t2]; simp
  have t2k := Lib.hid t2
  clear t2
  have HN := Lib.hid (HR.out.2 ⟨t0, t1, t2k.out⟩)
  by_cases h4 : 0 < x.f3.length
  all_goals
    go_wp2_with fail
    refine (contains_expr 79 Tryd.f79 #[.pointer (some ⟨w.heap.size + 1, 0, none⟩)] (fun y => !(exprB n y)) Tryd.func79 (by kernel_rfl) rfl A2 c2 x.f2 _ (Kd.C_below HC.out.1 hB3) (by cases HO.out; assumption) (fun y hy w3 A4 c4 hb3 hC3 hc3 => clo_stmt n level hl0 hl1 y (HI.out y (by cases HO.out; rename_i k2 k3 k4; exact k2 y hy)) _ A4 c4 w3 ((HG.out.below hB3).below hb3) ((hb3.cell (World.block_lt_of_cell? _ _ HS3.out.2.2.2.2.2)).trans HS3.out.2.2.2.2.2) hC3 hc3)).mono ?_
    rintro e w4 ⟨rfl, hb4⟩
    have HS4 := Lib.hid (HS3.out.below hb4)
    have hB4 := below_next hB3 (by first | exact Nat.le_refl _ | simp) hb4
    have HE := Lib.hid (all_not (n := n) x.f2)
    clear hB3
    clear s0 s1 s2 s3 s4 s5
    obtain ⟨s0, s1, s2, s3, s4, s5⟩ := HS4.out
    cases hE : x.f2.any (fun y => !(exprB n y)) with
    | true =>
      go_wp2_with fail
      go_ret
      exact ⟨by rw [HN.out, Bool.true_and, ← HE.out, hE]; rfl, hB4⟩
    | false =>
    have HE2 := Lib.hid (show x.f2.all (exprB n) = true by rw [← HE.out, hE]; rfl)
    clear hE HE
    go_wp2_with fail
    refine (HJ.out x.f3 (by cases HO.out; assumption) (by cases HO.out; assumption) A3 c3 _ (HG.out.below hB4) (Kd.C_below HC.out.2.1 hB4) HL.out.2.1).mono ?_
    rintro e w5 ⟨rfl, hb5⟩
    have HS5 := Lib.hid (HS4.out.below hb5)
    have hB5 := below_next hB4 (Nat.le_refl _) hb5
    clear hB4 s0 s1 s2 s3 s4 s5
    obtain ⟨s0, s1, s2, s3, s4, s5⟩ := HS5.out
    cases hT : x.f3.all (stmtB n) with
    | false =>
      go_wp2_with fail
      go_ret
      exact ⟨by rw [HN.out, HE2.out, hT]; rfl, hB5⟩
    | true =>
    go_wp2_with fail
    refine (HJ.out x.f4 (by cases HO.out; assumption) (by cases HO.out; assumption) A4 c4 _ (HG.out.below hB5) (Kd.C_below HC.out.2.2 hB5) HL.out.2.2).mono ?_
    rintro e w6 ⟨rfl, hb6⟩
    have hB6 := below_next hB5 (Nat.le_refl _) hb6
    clear hB5 s0 s1 s2 s3 s4 s5
    go_wp2_with fail
    go_ret
    exact ⟨by rw [HN.out, HE2.out, hT]; rfl, hB6⟩
set_option maxRecDepth 100000 in
set_option maxHeartbeats 4000000 in
theorem stmt_5 (n : Nat) (x : S64) (hO : OkS x) (level : Int) (hl0 : 0 ≤ level) (hl1 : level ≤ 1000) (IH : IHx n level) (IB : IHb n level) (A2 : Option Addr) (c2 : Nat) (A3 : Option Addr) (c3 : Nat) (A4 : Option Addr) (c4 : Nat) (w : World) (hG : Gl w) (hC2 : Kd.C k40 w A2 x.f2.length x.f2) (hc2 : x.f2.length ≤ c2) (hC3 : Kd.C k64 w A3 x.f3.length x.f3) (hc3 : x.f3.length ≤ c3) (hC4 : Kd.C k64 w A4 x.f4.length x.f4) (hc4 : x.f4.length ≤ c4) (hf : x.f0 = 5) (h1 : decide (24 < level) = false) (r : Bool) (hr : shapeS x = r) :
    Calls Tryd.prog 53 #[stV A2 c2 A3 c3 A4 c4 x, .int .i64 level] w fun e w' => e = .returned (.bool (r && (x.f2.all (exprB n) && x.f3.all (stmtB n) && x.f4.all (stmtB n)))) ∧ Below w.heap.size w w' := by
  have HC := Lib.hid (And.intro hC2 (And.intro hC3 hC4))
  have HL := Lib.hid (And.intro hc2 (And.intro hc3 hc4))
  have HG := Lib.hid hG
  have HI := Lib.hid IH
  have HJ := Lib.hid IB
  have HO := Lib.hid hO
  have HF := Lib.hid hf
  have HR := Lib.hid (hr ▸ scls_5 hf)
  clear hC2 hC3 hC4 hc2 hc3 hc4 hG IH IB hO hf hr
  have HB := Lib.hid (Below.refl w.heap.size w)
  have hB2 : Below w.heap.size w ((w.alloc (.cells #[.int .i64 x.f0, .string x.f1, .slice A2 x.f2.length c2, .slice A3 x.f3.length c3, .slice A4 x.f4.length c4] 64)).alloc (.cells #[.int .i64 level] 3)) := (HB.out.alloc (Nat.le_refl _) _).alloc (by simp) _
  have HS : Hid (SCells w.heap.size (w.heap.size + 1) x A2 c2 A3 c3 A4 c4 level ((w.alloc (.cells #[.int .i64 x.f0, .string x.f1, .slice A2 x.f2.length c2, .slice A3 x.f3.length c3, .slice A4 x.f4.length c4] 64)).alloc (.cells #[.int .i64 level] 3))) := by
    have b0 := Blk.alloc (Blk.alloc_new w [.int .i64 x.f0, .string x.f1, .slice A2 x.f2.length c2, .slice A3 x.f3.length c3, .slice A4 x.f4.length c4] 64) (.cells #[.int .i64 level] 3)
    have b1 := second_new w (.cells #[.int .i64 x.f0, .string x.f1, .slice A2 x.f2.length c2, .slice A3 x.f3.length c3, .slice A4 x.f4.length c4] 64) [.int .i64 level] 3
    exact Lib.hid ⟨b0.cell 0 rfl, b0.cell 1 rfl, b0.cell 2 rfl, b0.cell 3 rfl, b0.cell 4 rfl, b1.cell 0 rfl⟩
  have e1 : (x.f0 == 1) = false := by rw [HF.out]; rfl
  have d1 : (x.f0 != 1) = true := by rw [HF.out]; rfl
  have e2 : (x.f0 == 2) = false := by rw [HF.out]; rfl
  have d2 : (x.f0 != 2) = true := by rw [HF.out]; rfl
  have e3 : (x.f0 == 3) = false := by rw [HF.out]; rfl
  have d3 : (x.f0 != 3) = true := by rw [HF.out]; rfl
  have e4 : (x.f0 == 4) = false := by rw [HF.out]; rfl
  have d4 : (x.f0 != 4) = true := by rw [HF.out]; rfl
  have e5 : (x.f0 == 5) = true := by rw [HF.out]; rfl
  have d5 : (x.f0 != 5) = false := by rw [HF.out]; rfl
  go_enter Tryd.func53, Tryd.ntmps53
  unfold stV
  cases t0 : ((x.f2.length : Int) != 1) with
  | true =>
    have HN := Lib.hid (no_of HR.out fun h => Bool.noConfusion (t0.symm.trans h.1))
    go_wp2_with fail
    go_ret
    exact ⟨by rw [HN.out]; rfl, hB2⟩
  | false =>
  cases t1 : x.f1.toList.isEmpty with
  | false =>
    have HN := Lib.hid (no_of HR.out fun h => Bool.noConfusion (t1.symm.trans h.2.1))
    go_wp2_with fail
    go_ret
    exact ⟨by rw [HN.out]; rfl, hB2⟩
  | true =>
  cases t2 : x.f4.isEmpty with
  | false =>
    have HN := Lib.hid (no_of HR.out fun h => Bool.noConfusion (t2.symm.trans h.2.2.1))
    have t2p : 0 < x.f4.length := List.length_pos_iff.2 (List.isEmpty_eq_false_iff.1 t2)
    go_wp2_with fail
    go_ret
    exact ⟨by rw [HN.out]; rfl, hB2⟩
  | true =>
  have t2p : ¬ 0 < x.f4.length := by rw [List.isEmpty_iff.1 t2]; simp
  have t2k := Lib.hid t2
  clear t2
  cases t3 : x.f3.isEmpty with
  | false =>
    have HN := Lib.hid (no_of HR.out fun h => Bool.noConfusion (t3.symm.trans h.2.2.2))
    have t3p : 0 < x.f3.length := List.length_pos_iff.2 (List.isEmpty_eq_false_iff.1 t3)
    go_wp2_with fail
    go_ret
    exact ⟨by rw [HN.out]; rfl, hB2⟩
  | true =>
  have t3p : ¬ 0 < x.f3.length := by rw [List.isEmpty_iff.1 t3]; simp
  have t3k := Lib.hid t3
  clear t3
  have HN := Lib.hid (HR.out.2 ⟨t0, t1, t2k.out, t3k.out⟩)
  go_wp2_with fail
  refine (contains_expr 79 Tryd.f79 #[.pointer (some ⟨w.heap.size + 1, 0, none⟩)] (fun y => !(exprB n y)) Tryd.func79 (by kernel_rfl) rfl A2 c2 x.f2 _ (Kd.C_below HC.out.1 hB2) (by cases HO.out; assumption) (fun y hy w3 A4 c4 hb3 hC3 hc3 => clo_stmt n level hl0 hl1 y (HI.out y (by cases HO.out; rename_i k2 k3 k4; exact k2 y hy)) _ A4 c4 w3 ((HG.out.below hB2).below hb3) ((hb3.cell (World.block_lt_of_cell? _ _ HS.out.2.2.2.2.2)).trans HS.out.2.2.2.2.2) hC3 hc3)).mono ?_
  rintro e w4 ⟨rfl, hb4⟩
  have HS4 := Lib.hid (HS.out.below hb4)
  have hB4 := below_next hB2 (by first | exact Nat.le_refl _ | simp) hb4
  have HE := Lib.hid (all_not (n := n) x.f2)
  clear hB2
  obtain ⟨s0, s1, s2, s3, s4, s5⟩ := HS4.out
  cases hE : x.f2.any (fun y => !(exprB n y)) with
  | true =>
    go_wp2_with fail
    go_ret
    exact ⟨by rw [HN.out, Bool.true_and, ← HE.out, hE]; rfl, hB4⟩
  | false =>
  have HE2 := Lib.hid (show x.f2.all (exprB n) = true by rw [← HE.out, hE]; rfl)
  clear hE HE
  go_wp2_with fail
  refine (HJ.out x.f3 (by cases HO.out; assumption) (by cases HO.out; assumption) A3 c3 _ (HG.out.below hB4) (Kd.C_below HC.out.2.1 hB4) HL.out.2.1).mono ?_
  rintro e w5 ⟨rfl, hb5⟩
  have HS5 := Lib.hid (HS4.out.below hb5)
  have hB5 := below_next hB4 (Nat.le_refl _) hb5
  clear hB4 s0 s1 s2 s3 s4 s5
  obtain ⟨s0, s1, s2, s3, s4, s5⟩ := HS5.out
  cases hT : x.f3.all (stmtB n) with
  | false =>
    go_wp2_with fail
    go_ret
    exact ⟨by rw [HN.out, HE2.out, hT]; rfl, hB5⟩
  | true =>
  go_wp2_with fail
  refine (HJ.out x.f4 (by cases HO.out; assumption) (by cases HO.out; assumption) A4 c4 _ (HG.out.below hB5) (Kd.C_below HC.out.2.2 hB5) HL.out.2.2).mono ?_
  rintro e w6 ⟨rfl, hb6⟩
  have hB6 := below_next hB5 (Nat.le_refl _) hb6
  clear hB5 s0 s1 s2 s3 s4 s5
  go_wp2_with fail
  go_ret
  exact ⟨by rw [HN.out, HE2.out, hT]; rfl, hB6⟩
theorem stmtB_shape {n : Nat} {x : S64} {b : Bool} (h : shapeS x = b) : stmtB (n + 1) x = (b && (x.f2.all (exprB n) && x.f3.all (stmtB n) && x.f4.all (stmtB n))) := by simp only [stmtB, h]
theorem stmt_calls : ∀ (n : Nat) (x : S64), OkS x → ∀ (level : Int), level = 25 - (n : Int) → 0 ≤ level → ∀ (A2 : Option Addr) (c2 : Nat) (A3 : Option Addr) (c3 : Nat) (A4 : Option Addr) (c4 : Nat) (w : World), Gl w → Kd.C k40 w A2 x.f2.length x.f2 → x.f2.length ≤ c2 → Kd.C k64 w A3 x.f3.length x.f3 → x.f3.length ≤ c3 → Kd.C k64 w A4 x.f4.length x.f4 → x.f4.length ≤ c4 →
    Calls Tryd.prog 53 #[stV A2 c2 A3 c3 A4 c4 x, .int .i64 level] w fun e w' => e = .returned (.bool (stmtB n x)) ∧ Below w.heap.size w w'
  | 0, x, hO, level, hl, h0, A2, c2, A3, c3, A4, c4, w, hG, hC2, hc2, hC3, hc3, hC4, hc4 => by
    have hl1 : level ≤ 1000 := by omega
    have h1 : decide (24 < level) = true := decide_eq_true (by omega)
    by_cases hf : x.f0 ≠ 1 ∧ x.f0 ≠ 2 ∧ x.f0 ≠ 3 ∧ x.f0 ≠ 4 ∧ x.f0 ≠ 5
    · exact stmt_none x hO level h0 hl1 A2 c2 A3 c3 A4 c4 w hG hC2 hc2 hC3 hc3 hC4 hc4 hf
    exact stmt_deep x hO level h0 hl1 A2 c2 A3 c3 A4 c4 w hG hC2 hc2 hC3 hc3 hC4 hc4 (by omega) h1
  | n + 1, x, hO, level, hl, h0, A2, c2, A3, c3, A4, c4, w, hG, hC2, hc2, hC3, hc3, hC4, hc4 => by
    have IH : IHx n level := fun y hy A4 c4 w1 g1 g2 g3 => expr_calls n y hy (level + 1) (by omega) (by omega) A4 c4 w1 g1 g2 g3
    have IB : IHb n level := fun l hl2 hlen A c w1 g1 g2 g3 => body_calls_ n (level + 1) (by omega) (by omega) l hlen (fun y hy B2 d2 B3 d3 B4 d4 w2 k0 k1 k2 k3 k4 k5 k6 => stmt_calls n y (hl2 y hy) (level + 1) (by omega) (by omega) B2 d2 B3 d3 B4 d4 w2 k0 k1 k2 k3 k4 k5 k6) A c w1 g1 g2 g3
    have hl1 : level ≤ 1000 := by omega
    have h1 : decide (24 < level) = false := decide_eq_false (by omega)
    by_cases hf : x.f0 ≠ 1 ∧ x.f0 ≠ 2 ∧ x.f0 ≠ 3 ∧ x.f0 ≠ 4 ∧ x.f0 ≠ 5
    · rw [stmtB_shape (b := false) (by have : ¬ (1 ≤ x.f0 ∧ x.f0 ≤ 5) := by omega
                                       simp only [shapeS]
                                       by_cases ha : 1 ≤ x.f0
                                       · have hb : ¬ (x.f0 ≤ 5) := fun h => this ⟨ha, h⟩
                                         simp [hb]
                                       · simp [ha]), Bool.false_and]
      exact stmt_none x hO level h0 hl1 A2 c2 A3 c3 A4 c4 w hG hC2 hc2 hC3 hc3 hC4 hc4 hf
    rw [stmtB_shape (b := shapeS x) rfl]
    have hk : x.f0 = 1 ∨ x.f0 = 2 ∨ x.f0 = 3 ∨ x.f0 = 4 ∨ x.f0 = 5 := by omega
    rcases hk with hf | hf | hf | hf | hf
    · exact stmt_1 n x hO level h0 hl1 IH IB A2 c2 A3 c3 A4 c4 w hG hC2 hc2 hC3 hc3 hC4 hc4 hf h1 _ rfl
    · exact stmt_2 n x hO level h0 hl1 IH IB A2 c2 A3 c3 A4 c4 w hG hC2 hc2 hC3 hc3 hC4 hc4 hf h1 _ rfl
    · exact stmt_3 n x hO level h0 hl1 IH IB A2 c2 A3 c3 A4 c4 w hG hC2 hc2 hC3 hc3 hC4 hc4 hf h1 _ rfl
    · exact stmt_4 n x hO level h0 hl1 IH IB A2 c2 A3 c3 A4 c4 w hG hC2 hc2 hC3 hc3 hC4 hc4 hf h1 _ rfl
    · exact stmt_5 n x hO level h0 hl1 IH IB A2 c2 A3 c3 A4 c4 w hG hC2 hc2 hC3 hc3 hC4 hc4 hf h1 _ rfl
theorem body_calls (n : Nat) (l : List S64) (hO : ∀ y ∈ l, OkS y) (hlen : l.length ≤ 140737488351232) (level : Int) (hl : level = 25 - (n : Int)) (h0 : 0 ≤ level) (A : Option Addr) (c : Nat) (w : World) (hG : Gl w) (hC : Kd.C k64 w A l.length l) (hc : l.length ≤ c) :
    Calls Tryd.prog 29 #[.slice A l.length c, .int .i64 level] w fun e w2 => e = .returned (.bool (l.all (stmtB n))) ∧ Below w.heap.size w w2 :=
  body_calls_ n level h0 (by omega) l hlen (fun y hy B2 d2 B3 d3 B4 d4 w2 k0 k1 k2 k3 k4 k5 k6 => stmt_calls n y (hO y hy) level hl h0 B2 d2 B3 d3 B4 d4 w2 k0 k1 k2 k3 k4 k5 k6) A c w hG hC hc
end Go.Proofs.YtlhnfgnihakcfaaDoor.Ax
set_option linter.unusedSimpArgs false
set_option linter.unusedVariables false
namespace Go.Proofs.YtlhnfgnihakcfaaDoor.Ax
open Go.RowKit Hp Kn
open Go.Proofs.YtlhnfgnihakcfaaDoorW.PrintWords Go.Proofs.YtlhnfgnihakcfaaDoorW.PrintLast Go.Proofs.YtlhnfgnihakcfaaDoorW.PrintMore
noncomputable def eqP {α : Type} (x y : α) : Bool := @decide (x = y) (Classical.propDecidable _)
theorem eqP_true {α : Type} {x y : α} : eqP x y = true ↔ x = y := by unfold eqP; exact @decide_eq_true_iff _ (Classical.propDecidable _)
theorem eqP_false {α : Type} {x y : α} (h : x ≠ y) : eqP x y = false := Bool.eq_false_iff.2 fun e => h (eqP_true.1 e)
theorem allP_eq {α : Type} : ∀ (l m : List α), allP eqP l m = eqP l m
  | [], [] => (eqP_true.2 rfl).symm
  | [], _ :: _ => (eqP_false (by simp)).symm
  | _ :: _, [] => (eqP_false (by simp)).symm
  | x :: l, y :: m => by
    simp only [allP, allP_eq l m]
    by_cases h : x = y
    · by_cases h2 : l = m
      · rw [eqP_true.2 h, eqP_true.2 h2, eqP_true.2 (show x :: l = y :: m by rw [h, h2])]; rfl
      · rw [eqP_false h2, eqP_false (show x :: l ≠ y :: m from fun e => h2 (List.cons.inj e).2), Bool.and_false]
    · rw [eqP_false h, eqP_false (show x :: l ≠ y :: m from fun e => h (List.cons.inj e).1), Bool.false_and]
theorem str_eq (a b : ByteArray) : (a.toList == b.toList) = true ↔ a = b := by
  rw [Lib.toList_data, Lib.toList_data, beq_iff_eq]
  constructor
  · intro h; cases a; cases b; congr 1; exact Array.toList_inj.1 h
  · intro h; rw [h]
theorem str_ne {a b : ByteArray} (h : (a.toList == b.toList) = false) : a ≠ b := fun e => by rw [(str_eq a b).2 e] at h; cases h
theorem exprEq {x y : S40} (h0 : x.f0 = y.f0) (h1 : x.f1 = y.f1) (h2 : x.f2 = y.f2) (h3 : x.f3 = y.f3) (h4 : x.f4 = y.f4) : x = y := by cases x; cases y; simp_all
theorem stmtEq {x y : S64} (h0 : x.f0 = y.f0) (h1 : x.f1 = y.f1) (h2 : x.f2 = y.f2) (h3 : x.f3 = y.f3) (h4 : x.f4 = y.f4) : x = y := by cases x; cases y; simp_all
set_option maxRecDepth 100000 in
theorem sameE_no0 (x y : S40) (A4 : Option Addr) (c4 : Nat) (B4 : Option Addr) (d4 : Nat) (w : World) (hC : Kd.C k40 w A4 x.f4.length x.f4) (hc : x.f4.length ≤ c4) (hD : Kd.C k40 w B4 y.f4.length y.f4) (hd : y.f4.length ≤ d4)
    (q0 : (x.f0 == y.f0) = false) :
    Calls Tryd.prog 59 #[exV A4 c4 x, exV B4 d4 y] w fun e w' => e = .returned (.bool (false)) ∧ Below w.heap.size w w' := by
  have HC := Lib.hid (And.intro hC hD)
  clear hC hD
  have hB := (Below.refl w.heap.size w).alloc (Nat.le_refl _) (.cells #[.int .i64 x.f0, .int .i64 x.f1, .int .u64 x.f2, .string x.f3, .slice A4 x.f4.length c4] 40)
  have hB2 := hB.alloc hB.size (.cells #[.int .i64 y.f0, .int .i64 y.f1, .int .u64 y.f2, .string y.f3, .slice B4 y.f4.length d4] 40)
  have HB := Lib.hid hB2
  clear hB hB2
  go_enter Tryd.func59, Tryd.ntmps59
  unfold exV
  go_wp2_with fail
  go_ret
  exact ⟨rfl, HB.out⟩
set_option maxRecDepth 100000 in
theorem sameE_no1 (x y : S40) (A4 : Option Addr) (c4 : Nat) (B4 : Option Addr) (d4 : Nat) (w : World) (hC : Kd.C k40 w A4 x.f4.length x.f4) (hc : x.f4.length ≤ c4) (hD : Kd.C k40 w B4 y.f4.length y.f4) (hd : y.f4.length ≤ d4)
    (q0 : (x.f0 == y.f0) = true) (q1 : (x.f1 == y.f1) = false) :
    Calls Tryd.prog 59 #[exV A4 c4 x, exV B4 d4 y] w fun e w' => e = .returned (.bool (false)) ∧ Below w.heap.size w w' := by
  have HC := Lib.hid (And.intro hC hD)
  clear hC hD
  have hB := (Below.refl w.heap.size w).alloc (Nat.le_refl _) (.cells #[.int .i64 x.f0, .int .i64 x.f1, .int .u64 x.f2, .string x.f3, .slice A4 x.f4.length c4] 40)
  have hB2 := hB.alloc hB.size (.cells #[.int .i64 y.f0, .int .i64 y.f1, .int .u64 y.f2, .string y.f3, .slice B4 y.f4.length d4] 40)
  have HB := Lib.hid hB2
  clear hB hB2
  go_enter Tryd.func59, Tryd.ntmps59
  unfold exV
  go_wp2_with fail
  go_ret
  exact ⟨rfl, HB.out⟩
set_option maxRecDepth 100000 in
theorem sameE_no2 (x y : S40) (A4 : Option Addr) (c4 : Nat) (B4 : Option Addr) (d4 : Nat) (w : World) (hC : Kd.C k40 w A4 x.f4.length x.f4) (hc : x.f4.length ≤ c4) (hD : Kd.C k40 w B4 y.f4.length y.f4) (hd : y.f4.length ≤ d4)
    (q0 : (x.f0 == y.f0) = true) (q1 : (x.f1 == y.f1) = true) (q2 : (x.f2 == y.f2) = false) :
    Calls Tryd.prog 59 #[exV A4 c4 x, exV B4 d4 y] w fun e w' => e = .returned (.bool (false)) ∧ Below w.heap.size w w' := by
  have HC := Lib.hid (And.intro hC hD)
  clear hC hD
  have hB := (Below.refl w.heap.size w).alloc (Nat.le_refl _) (.cells #[.int .i64 x.f0, .int .i64 x.f1, .int .u64 x.f2, .string x.f3, .slice A4 x.f4.length c4] 40)
  have hB2 := hB.alloc hB.size (.cells #[.int .i64 y.f0, .int .i64 y.f1, .int .u64 y.f2, .string y.f3, .slice B4 y.f4.length d4] 40)
  have HB := Lib.hid hB2
  clear hB hB2
  go_enter Tryd.func59, Tryd.ntmps59
  unfold exV
  go_wp2_with fail
  go_ret
  exact ⟨rfl, HB.out⟩
set_option maxRecDepth 100000 in
theorem sameE_no3 (x y : S40) (A4 : Option Addr) (c4 : Nat) (B4 : Option Addr) (d4 : Nat) (w : World) (hC : Kd.C k40 w A4 x.f4.length x.f4) (hc : x.f4.length ≤ c4) (hD : Kd.C k40 w B4 y.f4.length y.f4) (hd : y.f4.length ≤ d4)
    (q0 : (x.f0 == y.f0) = true) (q1 : (x.f1 == y.f1) = true) (q2 : (x.f2 == y.f2) = true) (q3 : (x.f3.toList == y.f3.toList) = false) :
    Calls Tryd.prog 59 #[exV A4 c4 x, exV B4 d4 y] w fun e w' => e = .returned (.bool (false)) ∧ Below w.heap.size w w' := by
  have HC := Lib.hid (And.intro hC hD)
  clear hC hD
  have hB := (Below.refl w.heap.size w).alloc (Nat.le_refl _) (.cells #[.int .i64 x.f0, .int .i64 x.f1, .int .u64 x.f2, .string x.f3, .slice A4 x.f4.length c4] 40)
  have hB2 := hB.alloc hB.size (.cells #[.int .i64 y.f0, .int .i64 y.f1, .int .u64 y.f2, .string y.f3, .slice B4 y.f4.length d4] 40)
  have HB := Lib.hid hB2
  clear hB hB2
  go_enter Tryd.func59, Tryd.ntmps59
  unfold exV
  go_wp2_with fail
  go_ret
  exact ⟨rfl, HB.out⟩
set_option maxRecDepth 100000 in
theorem sameE_yes (x y : S40) (hO : OkE x) (IH : ∀ a ∈ x.f4, ∀ b ∈ y.f4, ∀ (w : World), TestEE w 59 eqP a b) (A4 : Option Addr) (c4 : Nat) (B4 : Option Addr) (d4 : Nat) (w : World) (hC : Kd.C k40 w A4 x.f4.length x.f4) (hc : x.f4.length ≤ c4) (hD : Kd.C k40 w B4 y.f4.length y.f4) (hd : y.f4.length ≤ d4)
    (q0 : (x.f0 == y.f0) = true) (q1 : (x.f1 == y.f1) = true) (q2 : (x.f2 == y.f2) = true) (q3 : (x.f3.toList == y.f3.toList) = true) :
    Calls Tryd.prog 59 #[exV A4 c4 x, exV B4 d4 y] w fun e w' => e = .returned (.bool (eqP x.f4 y.f4)) ∧ Below w.heap.size w w' := by
  have HC := Lib.hid (And.intro hC hD)
  have HI := Lib.hid IH
  have HO := Lib.hid hO
  clear hC hD IH hO
  have hB := (Below.refl w.heap.size w).alloc (Nat.le_refl _) (.cells #[.int .i64 x.f0, .int .i64 x.f1, .int .u64 x.f2, .string x.f3, .slice A4 x.f4.length c4] 40)
  have hB2 := hB.alloc hB.size (.cells #[.int .i64 y.f0, .int .i64 y.f1, .int .u64 y.f2, .string y.f3, .slice B4 y.f4.length d4] 40)
  have HB := Lib.hid hB2
  clear hB hB2
  go_enter Tryd.func59, Tryd.ntmps59
  unfold exV
  go_wp2_with fail
  refine (equal_expr 59 Tryd.f59 eqP Tryd.func59 (by kernel_rfl) rfl A4 c4 x.f4 B4 d4 y.f4 _ (Kd.C_below HC.out.1 HB.out) (Kd.C_below HC.out.2 HB.out) (by cases HO.out; assumption) (fun a ha b hb => HI.out a ha b hb _)).mono ?_
  rintro e w2 ⟨rfl, hb2⟩
  have hB3 := below_next HB.out (by simp) hb2
  go_wp2_with fail
  go_ret
  exact ⟨by rw [← allP_eq]; rfl, hB3⟩
theorem sameExpr_calls {x : S40} (hO : OkE x) : ∀ (y : S40) (A4 : Option Addr) (c4 : Nat) (B4 : Option Addr) (d4 : Nat) (w : World), Kd.C k40 w A4 x.f4.length x.f4 → x.f4.length ≤ c4 → Kd.C k40 w B4 y.f4.length y.f4 → y.f4.length ≤ d4 →
    Calls Tryd.prog 59 #[exV A4 c4 x, exV B4 d4 y] w fun e w' => e = .returned (.bool (eqP x y)) ∧ Below w.heap.size w w' := by
  induction hO with
  | mk h0 h1 h3 h4 hk ih =>
    rename_i x
    intro y A4 c4 B4 d4 w hC hc hD hd
    have IH : ∀ a ∈ x.f4, ∀ b ∈ y.f4, ∀ (w : World), TestEE w 59 eqP a b := fun a ha b hb w w1 A5 c5 B5 d5 _ g1 g2 g3 g4 => ih a ha b A5 c5 B5 d5 w1 g1 g2 g3 g4
    cases q0 : (x.f0 == y.f0) with
    | false =>
      rw [eqP_false (show x ≠ y from fun e => by rw [e] at q0; simp at q0)]
      exact sameE_no0 x y A4 c4 B4 d4 w hC hc hD hd q0
    | true =>
    cases q1 : (x.f1 == y.f1) with
    | false =>
      rw [eqP_false (show x ≠ y from fun e => by rw [e] at q1; simp at q1)]
      exact sameE_no1 x y A4 c4 B4 d4 w hC hc hD hd q0 q1
    | true =>
    cases q2 : (x.f2 == y.f2) with
    | false =>
      rw [eqP_false (show x ≠ y from fun e => by rw [e] at q2; simp at q2)]
      exact sameE_no2 x y A4 c4 B4 d4 w hC hc hD hd q0 q1 q2
    | true =>
    cases q3 : (x.f3.toList == y.f3.toList) with
    | false =>
      rw [eqP_false (show x ≠ y from fun e => by rw [e] at q3; simp at q3)]
      exact sameE_no3 x y A4 c4 B4 d4 w hC hc hD hd q0 q1 q2 q3
    | true =>
      have e0 := beq_iff_eq.1 q0
      have e1 := beq_iff_eq.1 q1
      have e2 := beq_iff_eq.1 q2
      have e3 := (str_eq _ _).1 q3
      have : eqP x y = eqP x.f4 y.f4 := by
        by_cases h : x.f4 = y.f4
        · rw [eqP_true.2 h, eqP_true.2 (exprEq e0 e1 e2 e3 h)]
        · rw [eqP_false h, eqP_false (show x ≠ y from fun e => h (by rw [e]))]
      rw [this]
      exact sameE_yes x y (.mk h0 h1 h3 h4 hk) IH A4 c4 B4 d4 w hC hc hD hd q0 q1 q2 q3
set_option maxRecDepth 100000 in
theorem sameS_no0 (x y : S64) (A2 : Option Addr) (c2 : Nat) (A3 : Option Addr) (c3 : Nat) (A4 : Option Addr) (c4 : Nat) (B2 : Option Addr) (d2 : Nat) (B3 : Option Addr) (d3 : Nat) (B4 : Option Addr) (d4 : Nat) (w : World) (hA2 : Kd.C k40 w A2 x.f2.length x.f2) (lA2 : x.f2.length ≤ c2) (hA3 : Kd.C k64 w A3 x.f3.length x.f3) (lA3 : x.f3.length ≤ c3) (hA4 : Kd.C k64 w A4 x.f4.length x.f4) (lA4 : x.f4.length ≤ c4) (hB2 : Kd.C k40 w B2 y.f2.length y.f2) (lB2 : y.f2.length ≤ d2) (hB3 : Kd.C k64 w B3 y.f3.length y.f3) (lB3 : y.f3.length ≤ d3) (hB4 : Kd.C k64 w B4 y.f4.length y.f4) (lB4 : y.f4.length ≤ d4)
    (q0 : (x.f0 == y.f0) = false) :
    Calls Tryd.prog 35 #[stV A2 c2 A3 c3 A4 c4 x, stV B2 d2 B3 d3 B4 d4 y] w fun e w' => e = .returned (.bool (false)) ∧ Below w.heap.size w w' := by
  have HA := Lib.hid (And.intro hA2 (And.intro hA3 hA4))
  have HD := Lib.hid (And.intro hB2 (And.intro hB3 hB4))
  clear hA2 hA3 hA4 hB2 hB3 hB4 lA2 lA3 lA4 lB2 lB3 lB4
  have hB := (Below.refl w.heap.size w).alloc (Nat.le_refl _) (.cells #[.int .i64 x.f0, .string x.f1, .slice A2 x.f2.length c2, .slice A3 x.f3.length c3, .slice A4 x.f4.length c4] 64)
  have hB2 := hB.alloc hB.size (.cells #[.int .i64 y.f0, .string y.f1, .slice B2 y.f2.length d2, .slice B3 y.f3.length d3, .slice B4 y.f4.length d4] 64)
  have HB := Lib.hid hB2
  have HS := Lib.hid (And.intro (Blk.alloc (Blk.alloc_new w [.int .i64 x.f0, .string x.f1, .slice A2 x.f2.length c2, .slice A3 x.f3.length c3, .slice A4 x.f4.length c4] 64) (.cells #[.int .i64 y.f0, .string y.f1, .slice B2 y.f2.length d2, .slice B3 y.f3.length d3, .slice B4 y.f4.length d4] 64)) (second_new w (.cells #[.int .i64 x.f0, .string x.f1, .slice A2 x.f2.length c2, .slice A3 x.f3.length c3, .slice A4 x.f4.length c4] 64) [.int .i64 y.f0, .string y.f1, .slice B2 y.f2.length d2, .slice B3 y.f3.length d3, .slice B4 y.f4.length d4] 64))
  clear hB hB2
  go_enter Tryd.func35, Tryd.ntmps35
  unfold stV
  go_wp2_with fail
  go_ret
  exact ⟨rfl, HB.out⟩
set_option maxRecDepth 100000 in
theorem sameS_no1 (x y : S64) (A2 : Option Addr) (c2 : Nat) (A3 : Option Addr) (c3 : Nat) (A4 : Option Addr) (c4 : Nat) (B2 : Option Addr) (d2 : Nat) (B3 : Option Addr) (d3 : Nat) (B4 : Option Addr) (d4 : Nat) (w : World) (hA2 : Kd.C k40 w A2 x.f2.length x.f2) (lA2 : x.f2.length ≤ c2) (hA3 : Kd.C k64 w A3 x.f3.length x.f3) (lA3 : x.f3.length ≤ c3) (hA4 : Kd.C k64 w A4 x.f4.length x.f4) (lA4 : x.f4.length ≤ c4) (hB2 : Kd.C k40 w B2 y.f2.length y.f2) (lB2 : y.f2.length ≤ d2) (hB3 : Kd.C k64 w B3 y.f3.length y.f3) (lB3 : y.f3.length ≤ d3) (hB4 : Kd.C k64 w B4 y.f4.length y.f4) (lB4 : y.f4.length ≤ d4)
    (q0 : (x.f0 == y.f0) = true) (q1 : (x.f1.toList == y.f1.toList) = false) :
    Calls Tryd.prog 35 #[stV A2 c2 A3 c3 A4 c4 x, stV B2 d2 B3 d3 B4 d4 y] w fun e w' => e = .returned (.bool (false)) ∧ Below w.heap.size w w' := by
  have HA := Lib.hid (And.intro hA2 (And.intro hA3 hA4))
  have HD := Lib.hid (And.intro hB2 (And.intro hB3 hB4))
  clear hA2 hA3 hA4 hB2 hB3 hB4 lA2 lA3 lA4 lB2 lB3 lB4
  have hB := (Below.refl w.heap.size w).alloc (Nat.le_refl _) (.cells #[.int .i64 x.f0, .string x.f1, .slice A2 x.f2.length c2, .slice A3 x.f3.length c3, .slice A4 x.f4.length c4] 64)
  have hB2 := hB.alloc hB.size (.cells #[.int .i64 y.f0, .string y.f1, .slice B2 y.f2.length d2, .slice B3 y.f3.length d3, .slice B4 y.f4.length d4] 64)
  have HB := Lib.hid hB2
  have HS := Lib.hid (And.intro (Blk.alloc (Blk.alloc_new w [.int .i64 x.f0, .string x.f1, .slice A2 x.f2.length c2, .slice A3 x.f3.length c3, .slice A4 x.f4.length c4] 64) (.cells #[.int .i64 y.f0, .string y.f1, .slice B2 y.f2.length d2, .slice B3 y.f3.length d3, .slice B4 y.f4.length d4] 64)) (second_new w (.cells #[.int .i64 x.f0, .string x.f1, .slice A2 x.f2.length c2, .slice A3 x.f3.length c3, .slice A4 x.f4.length c4] 64) [.int .i64 y.f0, .string y.f1, .slice B2 y.f2.length d2, .slice B3 y.f3.length d3, .slice B4 y.f4.length d4] 64))
  clear hB hB2
  go_enter Tryd.func35, Tryd.ntmps35
  unfold stV
  go_wp2_with fail
  go_ret
  exact ⟨rfl, HB.out⟩
set_option maxRecDepth 100000 in
theorem sameS_yes (x y : S64) (hO : OkS x) (IE : ∀ a ∈ x.f2, ∀ b ∈ y.f2, ∀ (w : World), TestEE w 59 eqP a b) (I3 : ∀ a ∈ x.f3, ∀ b ∈ y.f3, ∀ (w : World), TestSS w 35 eqP a b) (I4 : ∀ a ∈ x.f4, ∀ b ∈ y.f4, ∀ (w : World), TestSS w 35 eqP a b) (A2 : Option Addr) (c2 : Nat) (A3 : Option Addr) (c3 : Nat) (A4 : Option Addr) (c4 : Nat) (B2 : Option Addr) (d2 : Nat) (B3 : Option Addr) (d3 : Nat) (B4 : Option Addr) (d4 : Nat) (w : World) (hA2 : Kd.C k40 w A2 x.f2.length x.f2) (lA2 : x.f2.length ≤ c2) (hA3 : Kd.C k64 w A3 x.f3.length x.f3) (lA3 : x.f3.length ≤ c3) (hA4 : Kd.C k64 w A4 x.f4.length x.f4) (lA4 : x.f4.length ≤ c4) (hB2 : Kd.C k40 w B2 y.f2.length y.f2) (lB2 : y.f2.length ≤ d2) (hB3 : Kd.C k64 w B3 y.f3.length y.f3) (lB3 : y.f3.length ≤ d3) (hB4 : Kd.C k64 w B4 y.f4.length y.f4) (lB4 : y.f4.length ≤ d4)
    (q0 : (x.f0 == y.f0) = true) (q1 : (x.f1.toList == y.f1.toList) = true) :
    Calls Tryd.prog 35 #[stV A2 c2 A3 c3 A4 c4 x, stV B2 d2 B3 d3 B4 d4 y] w fun e w' => e = .returned (.bool (eqP x.f2 y.f2 && eqP x.f3 y.f3 && eqP x.f4 y.f4)) ∧ Below w.heap.size w w' := by
  have HA := Lib.hid (And.intro hA2 (And.intro hA3 hA4))
  have HD := Lib.hid (And.intro hB2 (And.intro hB3 hB4))
  have HE := Lib.hid IE
  have H3 := Lib.hid I3
  have H4 := Lib.hid I4
  have HO := Lib.hid hO
  clear hA2 hA3 hA4 hB2 hB3 hB4 lA2 lA3 lA4 lB2 lB3 lB4 IE I3 I4 hO
  have hB := (Below.refl w.heap.size w).alloc (Nat.le_refl _) (.cells #[.int .i64 x.f0, .string x.f1, .slice A2 x.f2.length c2, .slice A3 x.f3.length c3, .slice A4 x.f4.length c4] 64)
  have hB2 := hB.alloc hB.size (.cells #[.int .i64 y.f0, .string y.f1, .slice B2 y.f2.length d2, .slice B3 y.f3.length d3, .slice B4 y.f4.length d4] 64)
  have HB := Lib.hid hB2
  have HS := Lib.hid (And.intro (Blk.alloc (Blk.alloc_new w [.int .i64 x.f0, .string x.f1, .slice A2 x.f2.length c2, .slice A3 x.f3.length c3, .slice A4 x.f4.length c4] 64) (.cells #[.int .i64 y.f0, .string y.f1, .slice B2 y.f2.length d2, .slice B3 y.f3.length d3, .slice B4 y.f4.length d4] 64)) (second_new w (.cells #[.int .i64 x.f0, .string x.f1, .slice A2 x.f2.length c2, .slice A3 x.f3.length c3, .slice A4 x.f4.length c4] 64) [.int .i64 y.f0, .string y.f1, .slice B2 y.f2.length d2, .slice B3 y.f3.length d3, .slice B4 y.f4.length d4] 64))
  clear hB hB2
  go_enter Tryd.func35, Tryd.ntmps35
  unfold stV
  go_wp2_with fail
  refine (equal_expr 59 Tryd.f59 eqP Tryd.func59 (by kernel_rfl) rfl A2 c2 x.f2 B2 d2 y.f2 _ (Kd.C_below HA.out.1 HB.out) (Kd.C_below HD.out.1 HB.out) (by cases HO.out; assumption) (fun a ha b hb => HE.out a ha b hb _)).mono ?_
  rintro e w2 ⟨rfl, hb2⟩
  rw [allP_eq]
  have hB3 := below_next HB.out (by simp) hb2
  have HS2 := Lib.hid (And.intro (Blk.below HS.out.1 hb2 (by simp; omega)) (Blk.below HS.out.2 hb2 (by simp)))
  clear hb2
  have m0 : w2.cell? ⟨w.heap.size, 2, none⟩ = some (.slice A2 x.f2.length c2) := HS2.out.1.cell 2 rfl
  have m1 : w2.cell? ⟨w.heap.size, 3, none⟩ = some (.slice A3 x.f3.length c3) := HS2.out.1.cell 3 rfl
  have m2 : w2.cell? ⟨w.heap.size, 4, none⟩ = some (.slice A4 x.f4.length c4) := HS2.out.1.cell 4 rfl
  have m3 : w2.cell? ⟨w.heap.size + 1, 2, none⟩ = some (.slice B2 y.f2.length d2) := HS2.out.2.cell 2 rfl
  have m4 : w2.cell? ⟨w.heap.size + 1, 3, none⟩ = some (.slice B3 y.f3.length d3) := HS2.out.2.cell 3 rfl
  have m5 : w2.cell? ⟨w.heap.size + 1, 4, none⟩ = some (.slice B4 y.f4.length d4) := HS2.out.2.cell 4 rfl
  cases r2 : eqP x.f2 y.f2 with
  | false =>
    go_wp2_with fail
    go_ret
    exact ⟨by rw [r2]; rfl, hB3⟩
  | true =>
  go_wp2_with fail
  refine (equal_stmt 35 Tryd.f35 eqP Tryd.func35 (by kernel_rfl) rfl A3 c3 x.f3 B3 d3 y.f3 _ (Kd.C_below HA.out.2.1 hB3) (Kd.C_below HD.out.2.1 hB3) (by cases HO.out; assumption) (fun a ha b hb => H3.out a ha b hb _)).mono ?_
  rintro e w3 ⟨rfl, hb3⟩
  rw [allP_eq]
  have hB4 := below_next hB3 (by simp) hb3
  have HS3 := Lib.hid (And.intro (Blk.below HS2.out.1 hb3 HS2.out.1.lt) (Blk.below HS2.out.2 hb3 HS2.out.2.lt))
  clear hb3 hB3 m0 m1 m2 m3 m4 m5
  have m0 : w3.cell? ⟨w.heap.size, 2, none⟩ = some (.slice A2 x.f2.length c2) := HS3.out.1.cell 2 rfl
  have m1 : w3.cell? ⟨w.heap.size, 3, none⟩ = some (.slice A3 x.f3.length c3) := HS3.out.1.cell 3 rfl
  have m2 : w3.cell? ⟨w.heap.size, 4, none⟩ = some (.slice A4 x.f4.length c4) := HS3.out.1.cell 4 rfl
  have m3 : w3.cell? ⟨w.heap.size + 1, 2, none⟩ = some (.slice B2 y.f2.length d2) := HS3.out.2.cell 2 rfl
  have m4 : w3.cell? ⟨w.heap.size + 1, 3, none⟩ = some (.slice B3 y.f3.length d3) := HS3.out.2.cell 3 rfl
  have m5 : w3.cell? ⟨w.heap.size + 1, 4, none⟩ = some (.slice B4 y.f4.length d4) := HS3.out.2.cell 4 rfl
  cases r3 : eqP x.f3 y.f3 with
  | false =>
    go_wp2_with fail
    go_ret
    exact ⟨by rw [r2, r3]; rfl, hB4⟩
  | true =>
  go_wp2_with fail
  refine (equal_stmt 35 Tryd.f35 eqP Tryd.func35 (by kernel_rfl) rfl A4 c4 x.f4 B4 d4 y.f4 _ (Kd.C_below HA.out.2.2 hB4) (Kd.C_below HD.out.2.2 hB4) (by cases HO.out; assumption) (fun a ha b hb => H4.out a ha b hb _)).mono ?_
  rintro e w4 ⟨rfl, hb4⟩
  rw [allP_eq]
  have hB5 := below_next hB4 (by simp) hb4
  clear hb4 hB4 m0 m1 m2 m3 m4 m5
  go_wp2_with fail
  go_ret
  exact ⟨by rw [r2, r3]; rfl, hB5⟩
theorem sameStmt_calls {x : S64} (hO : OkS x) : ∀ (y : S64) (A2 : Option Addr) (c2 : Nat) (A3 : Option Addr) (c3 : Nat) (A4 : Option Addr) (c4 : Nat) (B2 : Option Addr) (d2 : Nat) (B3 : Option Addr) (d3 : Nat) (B4 : Option Addr) (d4 : Nat) (w : World), Kd.C k40 w A2 x.f2.length x.f2 → x.f2.length ≤ c2 → Kd.C k64 w A3 x.f3.length x.f3 → x.f3.length ≤ c3 → Kd.C k64 w A4 x.f4.length x.f4 → x.f4.length ≤ c4 → Kd.C k40 w B2 y.f2.length y.f2 → y.f2.length ≤ d2 → Kd.C k64 w B3 y.f3.length y.f3 → y.f3.length ≤ d3 → Kd.C k64 w B4 y.f4.length y.f4 → y.f4.length ≤ d4 →
    Calls Tryd.prog 35 #[stV A2 c2 A3 c3 A4 c4 x, stV B2 d2 B3 d3 B4 d4 y] w fun e w' => e = .returned (.bool (eqP x y)) ∧ Below w.heap.size w w' := by
  induction hO with
  | mk h1 h2 h3 h4 k2 k3 k4 ih3 ih4 =>
    rename_i x
    intro y A2 c2 A3 c3 A4 c4 B2 d2 B3 d3 B4 d4 w hA2 lA2 hA3 lA3 hA4 lA4 hB2 lB2 hB3 lB3 hB4 lB4
    have IE : ∀ a ∈ x.f2, ∀ b ∈ y.f2, ∀ (w : World), TestEE w 59 eqP a b := fun a ha b hb w w1 A5 c5 B5 d5 _ g1 g2 g3 g4 => sameExpr_calls (k2 a ha) b A5 c5 B5 d5 w1 g1 g2 g3 g4
    have I3 : ∀ a ∈ x.f3, ∀ b ∈ y.f3, ∀ (w : World), TestSS w 35 eqP a b := fun a ha b hb w w1 E2 e2 E3 e3 E4 e4 F2 f2 F3 f3 F4 f4 _ g1 g2 g3 g4 g5 g6 g7 g8 g9 g10 g11 g12 => ih3 a ha b E2 e2 E3 e3 E4 e4 F2 f2 F3 f3 F4 f4 w1 g1 g2 g3 g4 g5 g6 g7 g8 g9 g10 g11 g12
    have I4 : ∀ a ∈ x.f4, ∀ b ∈ y.f4, ∀ (w : World), TestSS w 35 eqP a b := fun a ha b hb w w1 E2 e2 E3 e3 E4 e4 F2 f2 F3 f3 F4 f4 _ g1 g2 g3 g4 g5 g6 g7 g8 g9 g10 g11 g12 => ih4 a ha b E2 e2 E3 e3 E4 e4 F2 f2 F3 f3 F4 f4 w1 g1 g2 g3 g4 g5 g6 g7 g8 g9 g10 g11 g12
    cases q0 : (x.f0 == y.f0) with
    | false =>
      rw [eqP_false (show x ≠ y from fun e => by rw [e] at q0; simp at q0)]
      exact sameS_no0 x y A2 c2 A3 c3 A4 c4 B2 d2 B3 d3 B4 d4 w hA2 lA2 hA3 lA3 hA4 lA4 hB2 lB2 hB3 lB3 hB4 lB4 q0
    | true =>
    cases q1 : (x.f1.toList == y.f1.toList) with
    | false =>
      rw [eqP_false (show x ≠ y from fun e => by rw [e] at q1; simp at q1)]
      exact sameS_no1 x y A2 c2 A3 c3 A4 c4 B2 d2 B3 d3 B4 d4 w hA2 lA2 hA3 lA3 hA4 lA4 hB2 lB2 hB3 lB3 hB4 lB4 q0 q1
    | true =>
      have e0 := beq_iff_eq.1 q0
      have e1 := (str_eq _ _).1 q1
      have : eqP x y = (eqP x.f2 y.f2 && eqP x.f3 y.f3 && eqP x.f4 y.f4) := by
        by_cases g2 : x.f2 = y.f2
        · by_cases g3 : x.f3 = y.f3
          · by_cases g4 : x.f4 = y.f4
            · rw [eqP_true.2 g2, eqP_true.2 g3, eqP_true.2 g4, eqP_true.2 (stmtEq e0 e1 g2 g3 g4)]; rfl
            · rw [eqP_false g4, Bool.and_false, eqP_false (show x ≠ y from fun e => g4 (by rw [e]))]
          · rw [eqP_false g3, Bool.and_false, Bool.false_and, eqP_false (show x ≠ y from fun e => g3 (by rw [e]))]
        · rw [eqP_false g2, Bool.false_and, Bool.false_and, eqP_false (show x ≠ y from fun e => g2 (by rw [e]))]
      rw [this]
      exact sameS_yes x y (.mk h1 h2 h3 h4 k2 k3 k4) IE I3 I4 A2 c2 A3 c3 A4 c4 B2 d2 B3 d3 B4 d4 w hA2 lA2 hA3 lA3 hA4 lA4 hB2 lB2 hB3 lB3 hB4 lB4 q0 q1
end Go.Proofs.YtlhnfgnihakcfaaDoor.Ax
set_option linter.unusedSimpArgs false
set_option linter.unusedVariables false
namespace Go.Proofs.YtlhnfgnihakcfaaDoor.Ax
open Go.RowKit Hp Kn Lx
open Go.Proofs.YtlhnfgnihakcfaaDoorW.PrintWords Go.Proofs.YtlhnfgnihakcfaaDoorW.PrintLast Go.Proofs.YtlhnfgnihakcfaaDoorW.PrintMore
def dec (u : Nat) : ByteArray := ⟨(Lib.decDigits u).toArray⟩
def strengthL : List Int := [0, 6, 6, 7, 5, 4, 3, 2]
def signL : List ByteArray := [⟨#[]⟩, ⟨#[43]⟩, ⟨#[45]⟩, ⟨#[42]⟩, ⟨#[60]⟩, ⟨#[61, 61]⟩, ⟨#[38]⟩, ⟨#[124]⟩]
def Tab (w : World) : Prop := Lib.TabIs Tryd.prog w "internal/strconv.uint64pow10" .u64 Lib.pow10Tab
def Gx (w : World) : Prop := Gl w ∧ Tab w ∧ (∀ j, j < 8 → w.cell? ⟨1, j, none⟩ = some (.int .i64 (strengthL.getD j 0))) ∧ (∀ j, j < 8 → w.cell? ⟨2, j, none⟩ = some (.string (signL.getD j ⟨#[]⟩)))
theorem Tab.below {w w' : World} (h : Tab w) (hb : Below w.heap.size w w') : Tab w' := by
  have hg : Tryd.prog.globalNamed "internal/strconv.uint64pow10" = some 3 := by kernel_rfl
  unfold Tab Lib.TabIs World.var? at *
  simp only [hg, Option.bind_some] at h ⊢
  have hlt : 3 < w.heap.size := by
    rcases Nat.lt_or_ge 3 w.heap.size with h' | h'
    · exact h'
    · rw [Array.getElem?_eq_none h'] at h; simp at h
  rw [hb.block _ hlt]
  exact h
theorem Gx.below {w w' : World} (h : Gx w) (hb : Below w.heap.size w w') : Gx w' :=
  ⟨h.1.below hb, h.2.1.below hb, fun j hj => (hb.cell (World.block_lt_of_cell? w _ (h.2.2.1 j hj))).trans (h.2.2.1 j hj), fun j hj => (hb.cell (World.block_lt_of_cell? w _ (h.2.2.2 j hj))).trans (h.2.2.2 j hj)⟩
set_option maxHeartbeats 4000000 in
set_option maxRecDepth 100000 in
theorem uint_small (u : Nat) (hu : u < 100) (w : World) :
    Calls Tryd.prog 83 #[.int .u64 u, .int .i64 10] w fun e w' => e = .returned (.string (dec u)) ∧ Below w.heap.size w w' := by
  have HB := Lib.hid (Below.refl w.heap.size w)
  go_enter Tryd.func83, Tryd.ntmps83
  go_wp2_with fail
  refine (Tryd.internal_strconv_small u hu _).mono ?_
  rintro e w' ⟨rfl, rfl⟩
  go_wp2_with fail
  go_ret
  exact ⟨rfl, HB.out⟩
set_option maxHeartbeats 4000000 in
set_option maxRecDepth 100000 in
theorem uint_big (u : Nat) (hu : 100 ≤ u) (hu64 : u < 18446744073709551616) (w : World) (htab : Tab w) :
    Calls Tryd.prog 83 #[.int .u64 u, .int .i64 10] w fun e w' => e = .returned (.string (dec u)) ∧ Below w.heap.size w w' := by
  have hu1 : 1 ≤ u := by omega
  have hnd20 : Lib.nDigits u ≤ 20 := by have := Lib.numDigits_eq u hu1 hu64; split at this <;> omega
  have hal : Tryd.prog.arrayLen 129 = 24 := by kernel_rfl
  have hsl : ∀ W, (Instr.sliceAt 129 (.pointer (some ⟨w.heap.size, 0, none⟩)) none (some (.int .i64 (Lib.nDigits u : Int))) none).run Tryd.prog W = .ok (.slice (some ⟨w.heap.size, 0, none⟩) (Lib.nDigits u) 24) W := fun W => by
    rw [run_sliceAt_array_h W 129 ⟨w.heap.size, 0, none⟩ (by simp [Program.arrayLen, Program.elem, Tryd.underlying129]) .i64 (Lib.nDigits u : Int) (by omega) (by rw [hal]; omega)]
    go_simp
  have hH0 := Lib.holds_zero0 w 129 (Lib.nDigits u) (by omega)
  have hfmt := Tryd.internal_strconv_formatBase10 w.heap.size 0 24 u (Array.replicate (Lib.nDigits u) 0) (w.alloc (.cells Lib.zeros24 129)) hH0 (by rw [Array.size_replicate]; exact Lib.lt_pow_nDigits u) hu64 (by rw [Array.size_replicate]; omega)
  rw [Array.size_replicate] at hfmt
  have HH0 := Lib.hid hH0
  have iu : (100 : Int) ≤ (u : Int) := by omega
  have HT := Lib.hid htab
  clear hH0 hal htab
  go_enter Tryd.func83, Tryd.ntmps83
  go_wp2_with fail
  refine (Tryd.internal_strconv_numDigits u hu1 hu64 _ (Lib.tabIs_alloc HT.out _)).mono ?_
  rintro e w' ⟨rfl, rfl⟩
  go_wp2_with fail
  refine hfmt.mono ?_
  rintro e w' ⟨rfl, k, v', dk, rfl, hF⟩
  have hcv : (convert 69 9 (.slice (some ⟨w.heap.size, 0, none⟩) (Lib.nDigits u) 24)).run Tryd.prog ((Sort.putRow (fun (b : UInt8) => Value.int .u8 (b.toNat : Int)) (w.alloc (.cells Lib.zeros24 129)) w.heap.size 0 dk).drewN k) = .ok (.string (dec u)) ((Sort.putRow (fun (b : UInt8) => Value.int .u8 (b.toNat : Int)) (w.alloc (.cells Lib.zeros24 129)) w.heap.size 0 dk).drewN k) := by
    have h := run_convert_bytes_back (P := Tryd.prog) ((Sort.putRow (fun (b : UInt8) => Value.int .u8 (b.toNat : Int)) (w.alloc (.cells Lib.zeros24 129)) w.heap.size 0 dk).drewN k) 69 9 5 ⟨w.heap.size, 0, none⟩ 24 (Lib.decDigits u) Tryd.underlying69 Tryd.underlying5 Tryd.underlying9 (fun j hj => by
      rw [Lib.row_is_numeral hF j hj, Lib.add_plain, World.cell?_drewN]
      exact Sort.cell?_putRow (fun (b : UInt8) => Value.int .u8 (b.toNat : Int)) _ w.heap.size 0 _ dk HH0.out (by rw [hF.size, Array.size_replicate]) j (by rw [hF.size]; rw [Lib.decDigits_length] at hj; exact hj))
    rw [Lib.decDigits_length] at h
    exact h
  obtain ⟨os, eo⟩ := Lib.fin_at w (.cells Lib.zeros24 129) dk k 0
  have hb : Below w.heap.size w ((Sort.putRow (fun (b : UInt8) => Value.int .u8 (b.toNat : Int)) (w.alloc (.cells Lib.zeros24 129)) w.heap.size 0 dk).drewN k) := by rw [eo]; exact Lib.below_grow _ w (Nat.le_refl _) k os
  have HB := Lib.hid hb
  clear eo hfmt hb
  go_wp2
  go_ret
  exact ⟨rfl, HB.out⟩
theorem uint_calls (u : Nat) (hu64 : u < 18446744073709551616) (w : World) (htab : Tab w) :
    Calls Tryd.prog 83 #[.int .u64 u, .int .i64 10] w fun e w' => e = .returned (.string (dec u)) ∧ Below w.heap.size w w' := by
  rcases Nat.lt_or_ge u 100 with h | h
  · exact uint_small u h w
  · exact uint_big u h hu64 w htab
theorem formatUint_calls (u : Nat) (hu64 : u < 18446744073709551616) (w : World) (htab : Tab w) :
    Calls Tryd.prog 61 #[.int .u64 u, .int .i64 10] w fun e w' => e = .returned (.string (dec u)) ∧ Below w.heap.size w w' := by
  have HT := Lib.hid htab
  clear htab
  go_enter Tryd.func61, Tryd.ntmps61
  go_wp2_with fail
  refine (uint_calls u hu64 _ HT.out).mono ?_
  rintro e w' ⟨rfl, hb⟩
  go_wp2_with fail
  go_ret
  exact ⟨rfl, hb⟩
theorem decimal_calls (u : Nat) (hu64 : u < 18446744073709551616) (w : World) (htab : Tab w) :
    Calls Tryd.prog 38 #[.int .u64 u] w fun e w' => e = .returned (.string (dec u)) ∧ Below w.heap.size w w' := by
  have HT := Lib.hid htab
  clear htab
  go_enter Tryd.func38, Tryd.ntmps38
  go_wp2_with fail
  refine (formatUint_calls u hu64 _ HT.out).mono ?_
  rintro e w' ⟨rfl, hb⟩
  go_wp2_with fail
  go_ret
  exact ⟨rfl, hb⟩
theorem num_calls (u : Nat) (hu64 : u < 9223372036854775808) (w : World) (htab : Tab w) :
    Calls Tryd.prog 37 #[.int .i64 u] w fun e w' => e = .returned (.string (dec u)) ∧ Below w.heap.size w w' := by
  have HT := Lib.hid htab
  clear htab
  have hw : IntKind.u64.wrap (u : Int) = (u : Int) := by rw [IntKind.wrap_u64]; omega
  go_enter Tryd.func37, Tryd.ntmps37
  go_wp2_with fail
  refine (decimal_calls u (by omega) _ HT.out).mono ?_
  rintro e w' ⟨rfl, hb⟩
  go_wp2_with fail
  go_ret
  exact ⟨rfl, hb⟩
end Go.Proofs.YtlhnfgnihakcfaaDoor.Ax
set_option linter.unusedSimpArgs false
set_option linter.unusedVariables false
namespace Go.Proofs.YtlhnfgnihakcfaaDoor.Ax
open Go.RowKit Hp Kn Lx
open Go.Proofs.YtlhnfgnihakcfaaDoorW.PrintWords Go.Proofs.YtlhnfgnihakcfaaDoorW.PrintLast Go.Proofs.YtlhnfgnihakcfaaDoorW.PrintMore
theorem add_run {P : Program} {a : Act} {oi : Oper} {x y : Operand} {ta tb : TypeId} {s t : ByteArray} (hop : oi.op = .binOp .add ta x y tb) (hx : a.eval x = .string s) (hy : a.eval y = .string t) (h : s.size + t.size ≤ 9223372036854775807) {w : World} {v : Value} (hv : v = .string (s ++ t)) : (execOp a.eval oi).run P w = .ok (.value v) w := by
  subst hv
  unfold execOp
  simp only [hop, hx, hy]
  simp [eqGuard, binOp_string_add, run_string_add_sum w s t h]
theorem decimal_int (z : Int) (h0 : 0 ≤ z) (h1 : z < 18446744073709551616) (w : World) (htab : Tab w) :
    Calls Tryd.prog 38 #[.int .u64 z] w fun e w' => e = .returned (.string (dec z.toNat)) ∧ Below w.heap.size w w' := by
  obtain ⟨u, rfl⟩ : ∃ u : Nat, z = u := ⟨z.toNat, by omega⟩
  exact decimal_calls u (by omega) w htab
theorem lit1 (a : UInt8) : ByteArray.size ⟨#[a]⟩ = 1 := rfl
theorem lit3 (a b c : UInt8) : ByteArray.size ⟨#[a, b, c]⟩ = 3 := rfl
def ECells (p : Addr) (y : S40) (A : Option Addr) (c : Nat) (W : World) : Prop :=
  W.cell? p = some (.int .i64 y.f0) ∧ W.cell? ⟨p.block, p.off + 1, none⟩ = some (.int .i64 y.f1) ∧ W.cell? ⟨p.block, p.off + 2, none⟩ = some (.int .u64 y.f2) ∧ W.cell? ⟨p.block, p.off + 3, none⟩ = some (.string y.f3) ∧ W.cell? ⟨p.block, p.off + 4, none⟩ = some (.slice A y.f4.length c)
theorem ECells.below {p : Addr} {y : S40} {A : Option Addr} {c : Nat} {W W2 : World} (h : ECells p y A c W) (hb : Below W.heap.size W W2) : ECells p y A c W2 := by
  obtain ⟨s0, s1, s2, s3, s4⟩ := h
  have k : ∀ (a : Addr) v, W.cell? a = some v → W2.cell? a = some v := fun a v h => (hb.cell (World.block_lt_of_cell? W _ h)).trans h
  exact ⟨k _ _ s0, k _ _ s1, k _ _ s2, k _ _ s3, k _ _ s4⟩
def TCells (g : Nat) (x : S40) (A : Option Addr) (c : Nat) (W : World) : Prop :=
  W.cell? ⟨g, 0, none⟩ = some (.int .i64 x.f0) ∧ W.cell? ⟨g, 1, none⟩ = some (.int .i64 x.f1) ∧ W.cell? ⟨g, 2, none⟩ = some (.int .u64 x.f2) ∧ W.cell? ⟨g, 3, none⟩ = some (.string x.f3) ∧ W.cell? ⟨g, 4, none⟩ = some (.slice A x.f4.length c)
theorem TCells.below {g : Nat} {x : S40} {A : Option Addr} {c : Nat} {W W2 : World} (h : TCells g x A c W) (hb : Below W.heap.size W W2) : TCells g x A c W2 := by
  obtain ⟨s0, s1, s2, s3, s4⟩ := h
  have k : ∀ (a : Addr) v, W.cell? a = some v → W2.cell? a = some v := fun a v h => (hb.cell (World.block_lt_of_cell? W _ h)).trans h
  exact ⟨k _ _ s0, k _ _ s1, k _ _ s2, k _ _ s3, k _ _ s4⟩
theorem TCells.new (w : World) (x : S40) (A : Option Addr) (c : Nat) : TCells w.heap.size x A c (w.alloc (.cells #[.int .i64 x.f0, .int .i64 x.f1, .int .u64 x.f2, .string x.f3, .slice A x.f4.length c] 40)) := by
  have b := Blk.alloc_new w [.int .i64 x.f0, .int .i64 x.f1, .int .u64 x.f2, .string x.f3, .slice A x.f4.length c] 40
  exact ⟨b.cell 0 rfl, b.cell 1 rfl, b.cell 2 rfl, b.cell 3 rfl, b.cell 4 rfl⟩
theorem kid_at {w : World} {ad : Addr} {xs : List S40} {y : S40} (hC : Kd.C k40 w (some ad) xs.length xs) (i : Nat) (hy : xs[i]? = some y) :
    ∃ A4 c4, ECells (ad.add (i * 5)) y A4 c4 w ∧ y.f4.length ≤ c4 ∧ Kd.C k40 w A4 y.f4.length y.f4 := by
  have hl := (List.getElem?_eq_some_iff.1 hy).1
  obtain ⟨ad2, A4, c4, e, h0, h1, h2, h3, h4, h5, h6⟩ := at_T40 hC (i : Int) (by omega) (by omega)
  cases e
  have hrd : rd_T40 xs (i : Int) = y := by simp [rd_T40, List.getD_eq_getElem?_getD, hy]
  rw [hrd] at h0 h1 h2 h3 h4 h5 h6
  exact ⟨A4, c4, ⟨h0, h1, h2, h3, h4⟩, h5, h6⟩
theorem add_zero (ad : Addr) : ad.add (0 * 5) = ad := by cases ad with | mk b o e => cases e <;> simp [Addr.add]
theorem some_addr {w : World} {A : Option Addr} {xs : List S40} (hC : Kd.C k40 w A xs.length xs) (h : 0 < xs.length) : ∃ ad, A = some ad := by
  obtain ⟨ad2, A4, c4, e, _⟩ := at_T40 hC 0 (by omega) (by omega)
  exact ⟨ad2, e⟩
def strengthF (x : S40) : Int := if x.f0 = 6 then 1 else if x.f0 = 4 then strengthL.getD x.f1.toNat 0 else if x.f0 = 5 then 8 else 9
set_option maxRecDepth 100000 in
theorem strength_calls (x : S40) (A : Option Addr) (c : Nat) (w : World) (hG : Gx w) (h4 : x.f0 = 4 → 1 ≤ x.f1 ∧ x.f1 ≤ 7) :
    Calls Tryd.prog 108 #[exV A c x] w fun e w' => e = .returned (.int .i64 (strengthF x)) ∧ Below w.heap.size w w' := by
  have HB := Lib.hid ((Below.refl w.heap.size w).alloc (Nat.le_refl _) (.cells #[.int .i64 x.f0, .int .i64 x.f1, .int .u64 x.f2, .string x.f3, .slice A x.f4.length c] 40))
  unfold strengthF
  by_cases e6 : x.f0 = 6
  · rw [if_pos e6]
    have t6 : (x.f0 == 6) = true := by rw [e6]; rfl
    clear e6 hG h4
    go_enter Tryd.func108, Tryd.ntmps108
    unfold exV
    go_wp2_with fail
    go_ret
    exact ⟨rfl, HB.out⟩
  have t6 : (x.f0 == 6) = false := beq_eq_false_iff_ne.2 e6
  rw [if_neg e6]
  by_cases e4 : x.f0 = 4
  · rw [if_pos e4]
    have hr := h4 e4
    have t4 : (x.f0 == 4) = true := by rw [e4]; rfl
    have hv := (HB.out.cell (World.block_lt_of_cell? w _ (hG.2.2.1 x.f1.toNat (by omega)))).trans (hG.2.2.1 x.f1.toNat (by omega))
    generalize strengthL.getD x.f1.toNat 0 = k at hv
    have r1 : 0 ≤ x.f1 := by omega
    have r2 : x.f1 < 8 := by omega
    clear e6 e4 hG h4 hr
    go_enter Tryd.func108, Tryd.ntmps108
    unfold exV
    go_wp2_with fail
    go_ret
    exact ⟨rfl, HB.out⟩
  have t4 : (x.f0 == 4) = false := beq_eq_false_iff_ne.2 e4
  rw [if_neg e4]
  by_cases e5 : x.f0 = 5
  · rw [if_pos e5]
    have t5 : (x.f0 == 5) = true := by rw [e5]; rfl
    clear e6 e4 e5 hG h4
    go_enter Tryd.func108, Tryd.ntmps108
    unfold exV
    go_wp2_with fail
    go_ret
    exact ⟨rfl, HB.out⟩
  have t5 : (x.f0 == 5) = false := beq_eq_false_iff_ne.2 e5
  rw [if_neg e5]
  clear e6 e4 e5 hG h4
  go_enter Tryd.func108, Tryd.ntmps108
  unfold exV
  go_wp2_with fail
  go_ret
  exact ⟨rfl, HB.out⟩
def wrapT (b : Bool) (t : ByteArray) : ByteArray := if b then ⟨#[40]⟩ ++ t ++ ⟨#[41]⟩ else t
def IHt (y : S40) (t : ByteArray) : Prop := ∀ (A4 : Option Addr) (c4 : Nat) (w1 : World), Gx w1 → Kd.C k40 w1 A4 y.f4.length y.f4 → y.f4.length ≤ c4 → Calls Tryd.prog 65 #[exV A4 c4 y] w1 fun e w2 => e = .returned (.string t) ∧ Below w1.heap.size w1 w2
def IHh (y : S40) (least : Int) (t : ByteArray) : Prop := ∀ (A4 : Option Addr) (c4 : Nat) (w1 : World), Gx w1 → Kd.C k40 w1 A4 y.f4.length y.f4 → y.f4.length ≤ c4 → Calls Tryd.prog 88 #[exV A4 c4 y, .int .i64 least] w1 fun e w2 => e = .returned (.string t) ∧ Below w1.heap.size w1 w2
set_option maxRecDepth 100000 in
theorem held_calls_ (x : S40) (least : Int) (t : ByteArray) (ht : t.size ≤ 100000000000000) (IH : IHt x t) (h4 : x.f0 = 4 → 1 ≤ x.f1 ∧ x.f1 ≤ 7) : IHh x least (wrapT (decide (strengthF x < least)) t) := by
  intro A c w hG hC hc
  have HG := Lib.hid hG
  have HC := Lib.hid hC
  have HI := Lib.hid IH
  have H4 := Lib.hid h4
  have HB := Lib.hid ((Below.refl w.heap.size w).alloc (Nat.le_refl _) (.cells #[.int .i64 x.f0, .int .i64 x.f1, .int .u64 x.f2, .string x.f3, .slice A x.f4.length c] 40))
  have HT := Lib.hid (TCells.new w x A c)
  have z1 : ByteArray.size ⟨#[40]⟩ = 1 := rfl
  have z2 : ByteArray.size ⟨#[41]⟩ = 1 := rfl
  clear hG hC IH h4
  go_enter Tryd.func88, Tryd.ntmps88
  unfold exV
  go_wp2_with fail
  refine (strength_calls x A c _ (HG.out.below HB.out) H4.out).mono ?_
  rintro e w2 ⟨rfl, hb2⟩
  have HT2 := Lib.hid (HT.out.below hb2)
  have hb3 := below_next HB.out (by simp) hb2
  clear hb2
  obtain ⟨s0, s1, s2, s3, s4⟩ := HT2.out
  cases hd : decide (strengthF x < least) with
  | true =>
    go_wp2_with fail
    refine (HI.out A c _ (HG.out.below hb3) (Kd.C_below HC.out hb3) hc).mono ?_
    rintro e w4 ⟨rfl, hb4⟩
    have hb5 := below_next hb3 (Nat.le_refl _) hb4
    clear hb3 hb4 s0 s1 s2 s3 s4
    go_wp2_with fail
    go_ret
    exact ⟨by rw [hd]; rfl, hb5⟩
  | false =>
    go_wp2_with fail
    refine (HI.out A c _ (HG.out.below hb3) (Kd.C_below HC.out hb3) hc).mono ?_
    rintro e w4 ⟨rfl, hb4⟩
    have hb5 := below_next hb3 (Nat.le_refl _) hb4
    clear hb3 hb4 s0 s1 s2 s3 s4
    go_wp2_with fail
    go_ret
    exact ⟨by rw [hd]; rfl, hb5⟩
set_option maxRecDepth 100000 in
set_option maxHeartbeats 2000000 in
theorem text_one (x : S40) (A : Option Addr) (c : Nat) (w : World) (hG : Gx w) (hC : Kd.C k40 w A x.f4.length x.f4) (hc : x.f4.length ≤ c) (hf : x.f0 = 1) (hu : 0 ≤ x.f2) (hu64 : x.f2 < 18446744073709551616) :
    Calls Tryd.prog 65 #[exV A c x] w fun e w' => e = .returned (.string (dec x.f2.toNat)) ∧ Below w.heap.size w w' := by
  have HG := Lib.hid hG
  have HF := Lib.hid hf
  have e1 : (x.f0 == 1) = true := by rw [HF.out]; rfl
  have HB := Lib.hid ((Below.refl w.heap.size w).alloc (Nat.le_refl _) (.cells #[.int .i64 x.f0, .int .i64 x.f1, .int .u64 x.f2, .string x.f3, .slice A x.f4.length c] 40))
  clear hG hf hC hc
  go_enter Tryd.func65, Tryd.ntmps65
  unfold exV
  go_wp2_with fail
  refine (decimal_int x.f2 hu hu64 _ (HG.out.below HB.out).2.1).mono ?_
  rintro e w2 ⟨rfl, hb2⟩
  have hb3 := below_next HB.out (by simp) hb2
  go_wp2_with fail
  go_ret
  exact ⟨rfl, hb3⟩
set_option maxRecDepth 100000 in
set_option maxHeartbeats 2000000 in
theorem text_two (x : S40) (A : Option Addr) (c : Nat) (w : World) (hG : Gx w) (hC : Kd.C k40 w A x.f4.length x.f4) (hc : x.f4.length ≤ c) (hf : x.f0 = 2)  :
    Calls Tryd.prog 65 #[exV A c x] w fun e w' => e = .returned (.string (x.f3)) ∧ Below w.heap.size w w' := by
  have HG := Lib.hid hG
  have HF := Lib.hid hf
  have e1 : (x.f0 == 1) = false := by rw [HF.out]; rfl
  have e2 : (x.f0 == 2) = true := by rw [HF.out]; rfl
  have HB := Lib.hid ((Below.refl w.heap.size w).alloc (Nat.le_refl _) (.cells #[.int .i64 x.f0, .int .i64 x.f1, .int .u64 x.f2, .string x.f3, .slice A x.f4.length c] 40))
  clear hG hf hC hc
  go_enter Tryd.func65, Tryd.ntmps65
  unfold exV
  go_wp2_with fail
  go_ret
  exact ⟨rfl, HB.out⟩
set_option maxRecDepth 100000 in
set_option maxHeartbeats 2000000 in
theorem text_three (x : S40) (y : S40) (yt : ByteArray) (A : Option Addr) (c : Nat) (w : World) (hG : Gx w) (hC : Kd.C k40 w A x.f4.length x.f4) (hc : x.f4.length ≤ c) (hf : x.f0 = 3) (ky : x.f4[0]? = some y) (Iy : IHt y yt) (yz : yt.size ≤ 100000000000000) (hz : x.f3.size ≤ 100000000000000) :
    Calls Tryd.prog 65 #[exV A c x] w fun e w' => e = .returned (.string (x.f3 ++ ⟨#[91]⟩ ++ yt ++ ⟨#[93]⟩)) ∧ Below w.heap.size w w' := by
  have HG := Lib.hid hG
  have HF := Lib.hid hf
  have e1 : (x.f0 == 1) = false := by rw [HF.out]; rfl
  have e2 : (x.f0 == 2) = false := by rw [HF.out]; rfl
  have e3 : (x.f0 == 3) = true := by rw [HF.out]; rfl
  obtain ⟨ad, rfl⟩ := some_addr hC (List.getElem?_eq_some_iff.1 ky).1
  have HB := Lib.hid ((Below.refl w.heap.size w).alloc (Nat.le_refl _) (.cells #[.int .i64 x.f0, .int .i64 x.f1, .int .u64 x.f2, .string x.f3, .slice (some ad) x.f4.length c] 40))
  have HT := Lib.hid (TCells.new w x (some ad) c)
  have hC2 := Kd.C_below hC HB.out
  obtain ⟨yA, yc, yE, yl, yC⟩ := kid_at hC2 0 ky
  have ly := (List.getElem?_eq_some_iff.1 ky).1
  have yL := Lib.hid (And.intro yl yC)
  have yI := Lib.hid Iy
  rw [add_zero] at yE
  clear hG hf hC hC2 yl yC ky Iy
  go_enter Tryd.func65, Tryd.ntmps65
  unfold exV
  go_wp2_with fail
  have hS : (fun W => TCells w.heap.size x (some ad) c W ∧ ECells ad y yA yc W) (w.alloc (.cells #[.int .i64 x.f0, .int .i64 x.f1, .int .u64 x.f2, .string x.f3, .slice (some ad) x.f4.length c] 40)).drew := ⟨HT.out, yE⟩
  clear yE HT
  refine Rg.region_steps (S := (fun W => TCells w.heap.size x (some ad) c W ∧ ECells ad y yA yc W)) [.any 0, .take 1, .any 2, .any 3, .take 4, .any 5, .take 6, .one 7, .any 8, .any 9, .any 10] (by kernel_rfl) (by kernel_rfl) hS ?_
  refine Rg.p 17 ?_ ?_ rfl rfl (fun _ _ _ h => h) (by rfl) ?_ ?_ ?_; rotate_left 2; (intro w'; go_simp; with_reducible rfl); (simp only [Rg.pq, Rg.pz, Rg.ps]; rfl)
  refine Rg.t 18 ?_ ?_ rfl rfl (fun _ _ _ h => h) (by assumption) (by rfl) ?_ ?_ ?_; rotate_left 2; (rintro w' ⟨⟨s0, s1, s2, s3, s4⟩, ⟨y0, y1, y2, y3, y4⟩⟩; go_simp; with_reducible rfl); (simp only [Rg.pq, Rg.pz, Rg.ps]; rfl)
  refine Rg.p 19 ?_ ?_ rfl rfl (fun _ _ _ h => h) (by rfl) ?_ ?_ ?_; rotate_left 2; (focus (intro w'; apply add_run; exact rfl; exact rfl; exact rfl; all_goals (first | (with_reducible rfl) | omega | (simp only [ByteArray.size_append, lit1, lit3]; omega)))); (simp only [Rg.pq, Rg.pz, Rg.ps]; rfl)
  refine Rg.p 20 ?_ ?_ rfl rfl (fun _ _ _ h => h) (by rfl) ?_ ?_ ?_; rotate_left 2; (intro w'; go_simp; with_reducible rfl); (simp only [Rg.pq, Rg.pz, Rg.ps]; rfl)
  refine Rg.t 21 ?_ ?_ rfl rfl (fun _ _ _ h => h) (by assumption) (by rfl) ?_ ?_ ?_; rotate_left 2; (rintro w' ⟨⟨s0, s1, s2, s3, s4⟩, ⟨y0, y1, y2, y3, y4⟩⟩; go_simp; with_reducible rfl); (simp only [Rg.pq, Rg.pz, Rg.ps]; rfl)
  refine Rg.p 22 ?_ ?_ rfl rfl (fun _ _ _ h => h) (by rfl) ?_ ?_ ?_; rotate_left 2; (intro w'; go_simp; with_reducible rfl); (simp only [Rg.pq, Rg.pz, Rg.ps]; rfl)
  refine Rg.t 23 ?_ ?_ rfl rfl (fun _ _ _ h => h) (by assumption) (by rfl) ?_ ?_ ?_; rotate_left 2; (rintro w' ⟨⟨s0, s1, s2, s3, s4⟩, ⟨y0, y1, y2, y3, y4⟩⟩; go_simp; with_reducible rfl); (simp only [Rg.pq, Rg.pz, Rg.ps]; rfl)
  refine Rg.s_call (N := some 24) rfl rfl Tryd.func65 (by kernel_rfl) rfl #[.agg #[.int .i64 y.f0, .int .i64 y.f1, .int .u64 y.f2, .string y.f3, .slice yA y.f4.length yc]] (by rfl) rfl (by (try simp only [List.map_toArray, List.map_cons, List.map_nil]); first | done | rfl) ?_
  refine (yI.out yA yc _ (HG.out.below HB.out.drew) (Kd.C_below yL.out.2 (Below.refl _ _).drew) yL.out.1).mono ?_
  rintro e w2 ⟨rfl, hb2⟩
  have hS2 := And.intro (hS.1.below hb2) (hS.2.below hb2)
  have hb3 := below_next HB.out.drew (by simp) hb2
  clear hS hb2
  refine ⟨hS2, ?_⟩
  refine Rg.s_norm (a' := ?_) ?_ ?_; rotate_left; (simp only [Act.put, List.setIfInBounds_toArray, List.set_cons_zero, List.set_cons_succ]; rfl)
  refine Rg.p 25 ?_ ?_ rfl rfl (fun _ _ _ h => h) (by rfl) ?_ ?_ ?_; rotate_left 2; (focus (intro w'; apply add_run; exact rfl; exact rfl; exact rfl; all_goals (first | (with_reducible rfl) | omega | (simp only [ByteArray.size_append, lit1, lit3]; omega)))); (simp only [Rg.pq, Rg.pz, Rg.ps]; rfl)
  refine Rg.p 26 ?_ ?_ rfl rfl (fun _ _ _ h => h) (by rfl) ?_ ?_ ?_; rotate_left 2; (focus (intro w'; apply add_run; exact rfl; exact rfl; exact rfl; all_goals (first | (with_reducible rfl) | omega | (simp only [ByteArray.size_append, lit1, lit3]; omega)))); (simp only [Rg.pq, Rg.pz, Rg.ps]; rfl)
  refine Rg.p 2 ?_ ?_ rfl rfl (fun _ _ _ h => h) (by rfl) ?_ ?_ ?_; rotate_left 2; (intro w'; go_simp; with_reducible rfl); (simp only [Rg.pq, Rg.pz, Rg.ps]; rfl)
  refine Rg.s_done ?_
  go_wp2_with fail
  go_ret
  exact ⟨rfl, hb3⟩
set_option maxRecDepth 100000 in
set_option maxHeartbeats 2000000 in
theorem text_five (x : S40) (y : S40) (yt : ByteArray) (A : Option Addr) (c : Nat) (w : World) (hG : Gx w) (hC : Kd.C k40 w A x.f4.length x.f4) (hc : x.f4.length ≤ c) (hf : x.f0 = 5) (ky : x.f4[0]? = some y) (Iy : IHh y 8 yt) (yz : yt.size ≤ 100000000000000) :
    Calls Tryd.prog 65 #[exV A c x] w fun e w' => e = .returned (.string (⟨#[33]⟩ ++ yt)) ∧ Below w.heap.size w w' := by
  have HG := Lib.hid hG
  have HF := Lib.hid hf
  have e1 : (x.f0 == 1) = false := by rw [HF.out]; rfl
  have e2 : (x.f0 == 2) = false := by rw [HF.out]; rfl
  have e3 : (x.f0 == 3) = false := by rw [HF.out]; rfl
  have e5 : (x.f0 == 5) = true := by rw [HF.out]; rfl
  obtain ⟨ad, rfl⟩ := some_addr hC (List.getElem?_eq_some_iff.1 ky).1
  have HB := Lib.hid ((Below.refl w.heap.size w).alloc (Nat.le_refl _) (.cells #[.int .i64 x.f0, .int .i64 x.f1, .int .u64 x.f2, .string x.f3, .slice (some ad) x.f4.length c] 40))
  have HT := Lib.hid (TCells.new w x (some ad) c)
  have hC2 := Kd.C_below hC HB.out
  obtain ⟨yA, yc, yE, yl, yC⟩ := kid_at hC2 0 ky
  have ly := (List.getElem?_eq_some_iff.1 ky).1
  have yL := Lib.hid (And.intro yl yC)
  have yI := Lib.hid Iy
  rw [add_zero] at yE
  clear hG hf hC hC2 yl yC ky Iy
  go_enter Tryd.func65, Tryd.ntmps65
  unfold exV
  obtain ⟨y0, y1, y2, y3, y4⟩ := yE
  go_wp2_with fail
  refine (yI.out yA yc _ (HG.out.below HB.out) yL.out.2 yL.out.1).mono ?_
  rintro e w2 ⟨rfl, hb2⟩
  have hb3 := below_next HB.out (by simp) hb2
  have z1 : ByteArray.size ⟨#[33]⟩ = 1 := rfl
  go_wp2_with fail
  go_ret
  exact ⟨rfl, hb3⟩
set_option maxRecDepth 100000 in
set_option maxHeartbeats 2000000 in
theorem text_six (x : S40) (y : S40) (yt : ByteArray) (u : S40) (ut : ByteArray) (v : S40) (vt : ByteArray) (A : Option Addr) (c : Nat) (w : World) (hG : Gx w) (hC : Kd.C k40 w A x.f4.length x.f4) (hc : x.f4.length ≤ c) (hf : x.f0 = 6) (ky : x.f4[0]? = some y) (Iy : IHh y 2 yt) (yz : yt.size ≤ 100000000000000) (ku : x.f4[1]? = some u) (Iu : IHt u ut) (uz : ut.size ≤ 100000000000000) (kv : x.f4[2]? = some v) (Iv : IHt v vt) (vz : vt.size ≤ 100000000000000) :
    Calls Tryd.prog 65 #[exV A c x] w fun e w' => e = .returned (.string (yt ++ ⟨#[32, 63, 32]⟩ ++ ut ++ ⟨#[32, 58, 32]⟩ ++ vt)) ∧ Below w.heap.size w w' := by
  have HG := Lib.hid hG
  have HF := Lib.hid hf
  have e1 : (x.f0 == 1) = false := by rw [HF.out]; rfl
  have e2 : (x.f0 == 2) = false := by rw [HF.out]; rfl
  have e3 : (x.f0 == 3) = false := by rw [HF.out]; rfl
  have e5 : (x.f0 == 5) = false := by rw [HF.out]; rfl
  have e6 : (x.f0 == 6) = true := by rw [HF.out]; rfl
  obtain ⟨ad, rfl⟩ := some_addr hC (List.getElem?_eq_some_iff.1 ky).1
  have HB := Lib.hid ((Below.refl w.heap.size w).alloc (Nat.le_refl _) (.cells #[.int .i64 x.f0, .int .i64 x.f1, .int .u64 x.f2, .string x.f3, .slice (some ad) x.f4.length c] 40))
  have HT := Lib.hid (TCells.new w x (some ad) c)
  have hC2 := Kd.C_below hC HB.out
  obtain ⟨yA, yc, yE, yl, yC⟩ := kid_at hC2 0 ky
  have ly := (List.getElem?_eq_some_iff.1 ky).1
  have yL := Lib.hid (And.intro yl yC)
  have yI := Lib.hid Iy
  rw [add_zero] at yE
  obtain ⟨uA, uc, uE, ul, uC⟩ := kid_at hC2 1 ku
  have lu := (List.getElem?_eq_some_iff.1 ku).1
  have uL := Lib.hid (And.intro ul uC)
  have uI := Lib.hid Iu
  have uE : ECells ⟨ad.block, ad.off + 5, none⟩ u uA uc _ := uE
  have mu : (1 : Int) < (x.f4.length : Int) := by omega
  obtain ⟨vA, vc, vE, vl, vC⟩ := kid_at hC2 2 kv
  have lv := (List.getElem?_eq_some_iff.1 kv).1
  have vL := Lib.hid (And.intro vl vC)
  have vI := Lib.hid Iv
  have vE : ECells ⟨ad.block, ad.off + 10, none⟩ v vA vc _ := vE
  have mv : (2 : Int) < (x.f4.length : Int) := by omega
  clear hG hf hC hC2 yl yC ky Iy ul uC ku Iu vl vC kv Iv
  go_enter Tryd.func65, Tryd.ntmps65
  unfold exV
  go_wp2_with fail
  have hS : (fun W => TCells w.heap.size x (some ad) c W ∧ ECells ad y yA yc W ∧ ECells ⟨ad.block, ad.off + 5, none⟩ u uA uc W ∧ ECells ⟨ad.block, ad.off + 10, none⟩ v vA vc W) (w.alloc (.cells #[.int .i64 x.f0, .int .i64 x.f1, .int .u64 x.f2, .string x.f3, .slice (some ad) x.f4.length c] 40)).drew := ⟨HT.out, yE, uE, vE⟩
  clear yE uE vE HT
  refine Rg.region_steps (S := (fun W => TCells w.heap.size x (some ad) c W ∧ ECells ad y yA yc W ∧ ECells ⟨ad.block, ad.off + 5, none⟩ u uA uc W ∧ ECells ⟨ad.block, ad.off + 10, none⟩ v vA vc W)) [.any 0, .take 1, .any 2, .take 3, .any 6, .take 7, .any 8, .take 9, .any 13, .take 14, .any 15, .take 16, .one 4, .any 5, .one 10, .any 11, .any 12, .one 17, .any 18, .any 19] (by kernel_rfl) (by kernel_rfl) hS ?_
  refine Rg.p 37 ?_ ?_ rfl rfl (fun _ _ _ h => h) (by rfl) ?_ ?_ ?_; rotate_left 2; (intro w'; go_simp; with_reducible rfl); (simp only [Rg.pq, Rg.pz, Rg.ps]; rfl)
  refine Rg.t 38 ?_ ?_ rfl rfl (fun _ _ _ h => h) (by assumption) (by rfl) ?_ ?_ ?_; rotate_left 2; (rintro w' ⟨⟨s0, s1, s2, s3, s4⟩, ⟨⟨y0, y1, y2, y3, y4⟩, ⟨⟨u0, u1, u2, u3, u4⟩, ⟨v0, v1, v2, v3, v4⟩⟩⟩⟩; go_simp; with_reducible rfl); (simp only [Rg.pq, Rg.pz, Rg.ps]; rfl)
  refine Rg.p 39 ?_ ?_ rfl rfl (fun _ _ _ h => h) (by rfl) ?_ ?_ ?_; rotate_left 2; (intro w'; go_simp; with_reducible rfl); (simp only [Rg.pq, Rg.pz, Rg.ps]; rfl)
  refine Rg.t 40 ?_ ?_ rfl rfl (fun _ _ _ h => h) (by assumption) (by rfl) ?_ ?_ ?_; rotate_left 2; (rintro w' ⟨⟨s0, s1, s2, s3, s4⟩, ⟨⟨y0, y1, y2, y3, y4⟩, ⟨⟨u0, u1, u2, u3, u4⟩, ⟨v0, v1, v2, v3, v4⟩⟩⟩⟩; go_simp; with_reducible rfl); (simp only [Rg.pq, Rg.pz, Rg.ps]; rfl)
  refine Rg.p 43 ?_ ?_ rfl rfl (fun _ _ _ h => h) (by rfl) ?_ ?_ ?_; rotate_left 2; (intro w'; go_simp; with_reducible rfl); (simp only [Rg.pq, Rg.pz, Rg.ps]; rfl)
  refine Rg.t 44 ?_ ?_ rfl rfl (fun _ _ _ h => h) (by assumption) (by rfl) ?_ ?_ ?_; rotate_left 2; (rintro w' ⟨⟨s0, s1, s2, s3, s4⟩, ⟨⟨y0, y1, y2, y3, y4⟩, ⟨⟨u0, u1, u2, u3, u4⟩, ⟨v0, v1, v2, v3, v4⟩⟩⟩⟩; go_simp; with_reducible rfl); (simp only [Rg.pq, Rg.pz, Rg.ps]; rfl)
  refine Rg.p 45 ?_ ?_ rfl rfl (fun _ _ _ h => h) (by rfl) ?_ ?_ ?_; rotate_left 2; (intro w'; go_simp; with_reducible rfl); (simp only [Rg.pq, Rg.pz, Rg.ps]; rfl)
  refine Rg.t 46 ?_ ?_ rfl rfl (fun _ _ _ h => h) (by assumption) (by rfl) ?_ ?_ ?_; rotate_left 2; (rintro w' ⟨⟨s0, s1, s2, s3, s4⟩, ⟨⟨y0, y1, y2, y3, y4⟩, ⟨⟨u0, u1, u2, u3, u4⟩, ⟨v0, v1, v2, v3, v4⟩⟩⟩⟩; go_simp; with_reducible rfl); (simp only [Rg.pq, Rg.pz, Rg.ps]; rfl)
  refine Rg.p 50 ?_ ?_ rfl rfl (fun _ _ _ h => h) (by rfl) ?_ ?_ ?_; rotate_left 2; (intro w'; go_simp; with_reducible rfl); (simp only [Rg.pq, Rg.pz, Rg.ps]; rfl)
  refine Rg.t 51 ?_ ?_ rfl rfl (fun _ _ _ h => h) (by assumption) (by rfl) ?_ ?_ ?_; rotate_left 2; (rintro w' ⟨⟨s0, s1, s2, s3, s4⟩, ⟨⟨y0, y1, y2, y3, y4⟩, ⟨⟨u0, u1, u2, u3, u4⟩, ⟨v0, v1, v2, v3, v4⟩⟩⟩⟩; go_simp; with_reducible rfl); (simp only [Rg.pq, Rg.pz, Rg.ps]; rfl)
  refine Rg.p 52 ?_ ?_ rfl rfl (fun _ _ _ h => h) (by rfl) ?_ ?_ ?_; rotate_left 2; (intro w'; go_simp; with_reducible rfl); (simp only [Rg.pq, Rg.pz, Rg.ps]; rfl)
  refine Rg.t 53 ?_ ?_ rfl rfl (fun _ _ _ h => h) (by assumption) (by rfl) ?_ ?_ ?_; rotate_left 2; (rintro w' ⟨⟨s0, s1, s2, s3, s4⟩, ⟨⟨y0, y1, y2, y3, y4⟩, ⟨⟨u0, u1, u2, u3, u4⟩, ⟨v0, v1, v2, v3, v4⟩⟩⟩⟩; go_simp; with_reducible rfl); (simp only [Rg.pq, Rg.pz, Rg.ps]; rfl)
  refine Rg.s_call (N := some 41) rfl rfl Tryd.func88 (by kernel_rfl) rfl #[.agg #[.int .i64 y.f0, .int .i64 y.f1, .int .u64 y.f2, .string y.f3, .slice yA y.f4.length yc], .int .i64 2] (by rfl) rfl (by (try simp only [List.map_toArray, List.map_cons, List.map_nil]); first | done | rfl) ?_
  refine (yI.out yA yc _ (HG.out.below (HB.out.drew)) (Kd.C_below yL.out.2 (Below.refl _ _).drew) yL.out.1).mono ?_
  rintro e w2 ⟨rfl, hc0⟩
  have hS2 : (fun W => TCells w.heap.size x (some ad) c W ∧ ECells ad y yA yc W ∧ ECells ⟨ad.block, ad.off + 5, none⟩ u uA uc W ∧ ECells ⟨ad.block, ad.off + 10, none⟩ v vA vc W) w2 := ⟨hS.1.below hc0, ⟨hS.2.1.below hc0, ⟨hS.2.2.1.below hc0, hS.2.2.2.below hc0⟩⟩⟩
  have hd1 := below_next (HB.out.drew) (by first | exact Nat.le_refl _ | simp) hc0
  have he1 := below_next ((Below.refl _ _).drew) (Nat.le_refl _) hc0
  clear hS hc0
  refine ⟨hS2, ?_⟩
  refine Rg.s_norm (a' := ?_) ?_ ?_; rotate_left; (simp only [Act.put, List.setIfInBounds_toArray, List.set_cons_zero, List.set_cons_succ]; rfl)
  refine Rg.p 42 ?_ ?_ rfl rfl (fun _ _ _ h => h) (by rfl) ?_ ?_ ?_; rotate_left 2; (focus (intro w'; apply add_run; exact rfl; exact rfl; exact rfl; all_goals (first | (with_reducible rfl) | omega | (simp only [ByteArray.size_append, lit1, lit3]; omega)))); (simp only [Rg.pq, Rg.pz, Rg.ps]; rfl)
  refine Rg.s_call (N := some 47) rfl rfl Tryd.func65 (by kernel_rfl) rfl #[.agg #[.int .i64 u.f0, .int .i64 u.f1, .int .u64 u.f2, .string u.f3, .slice uA u.f4.length uc]] (by rfl) rfl (by (try simp only [List.map_toArray, List.map_cons, List.map_nil]); first | done | rfl) ?_
  refine (uI.out uA uc _ (HG.out.below hd1) (Kd.C_below uL.out.2 (he1)) uL.out.1).mono ?_
  rintro e w3 ⟨rfl, hc1⟩
  have hS3 : (fun W => TCells w.heap.size x (some ad) c W ∧ ECells ad y yA yc W ∧ ECells ⟨ad.block, ad.off + 5, none⟩ u uA uc W ∧ ECells ⟨ad.block, ad.off + 10, none⟩ v vA vc W) w3 := ⟨hS2.1.below hc1, ⟨hS2.2.1.below hc1, ⟨hS2.2.2.1.below hc1, hS2.2.2.2.below hc1⟩⟩⟩
  have hd2 := below_next hd1 (by first | exact Nat.le_refl _ | simp) hc1
  have he2 := below_next he1 (by first | exact Nat.le_refl _ | exact he1.size) hc1
  clear hS2 hc1
  refine ⟨hS3, ?_⟩
  refine Rg.s_norm (a' := ?_) ?_ ?_; rotate_left; (simp only [Act.put, List.setIfInBounds_toArray, List.set_cons_zero, List.set_cons_succ]; rfl)
  refine Rg.p 48 ?_ ?_ rfl rfl (fun _ _ _ h => h) (by rfl) ?_ ?_ ?_; rotate_left 2; (focus (intro w'; apply add_run; exact rfl; exact rfl; exact rfl; all_goals (first | (with_reducible rfl) | omega | (simp only [ByteArray.size_append, lit1, lit3]; omega)))); (simp only [Rg.pq, Rg.pz, Rg.ps]; rfl)
  refine Rg.p 49 ?_ ?_ rfl rfl (fun _ _ _ h => h) (by rfl) ?_ ?_ ?_; rotate_left 2; (focus (intro w'; apply add_run; exact rfl; exact rfl; exact rfl; all_goals (first | (with_reducible rfl) | omega | (simp only [ByteArray.size_append, lit1, lit3]; omega)))); (simp only [Rg.pq, Rg.pz, Rg.ps]; rfl)
  refine Rg.s_call (N := some 54) rfl rfl Tryd.func65 (by kernel_rfl) rfl #[.agg #[.int .i64 v.f0, .int .i64 v.f1, .int .u64 v.f2, .string v.f3, .slice vA v.f4.length vc]] (by rfl) rfl (by (try simp only [List.map_toArray, List.map_cons, List.map_nil]); first | done | rfl) ?_
  refine (vI.out vA vc _ (HG.out.below hd2) (Kd.C_below vL.out.2 (he2)) vL.out.1).mono ?_
  rintro e w4 ⟨rfl, hc2⟩
  have hS4 : (fun W => TCells w.heap.size x (some ad) c W ∧ ECells ad y yA yc W ∧ ECells ⟨ad.block, ad.off + 5, none⟩ u uA uc W ∧ ECells ⟨ad.block, ad.off + 10, none⟩ v vA vc W) w4 := ⟨hS3.1.below hc2, ⟨hS3.2.1.below hc2, ⟨hS3.2.2.1.below hc2, hS3.2.2.2.below hc2⟩⟩⟩
  have hd3 := below_next hd2 (by first | exact Nat.le_refl _ | simp) hc2
  have he3 := below_next he2 (by first | exact Nat.le_refl _ | exact he2.size) hc2
  clear hS3 hc2
  refine ⟨hS4, ?_⟩
  refine Rg.s_norm (a' := ?_) ?_ ?_; rotate_left; (simp only [Act.put, List.setIfInBounds_toArray, List.set_cons_zero, List.set_cons_succ]; rfl)
  refine Rg.p 55 ?_ ?_ rfl rfl (fun _ _ _ h => h) (by rfl) ?_ ?_ ?_; rotate_left 2; (focus (intro w'; apply add_run; exact rfl; exact rfl; exact rfl; all_goals (first | (with_reducible rfl) | omega | (simp only [ByteArray.size_append, lit1, lit3]; omega)))); (simp only [Rg.pq, Rg.pz, Rg.ps]; rfl)
  refine Rg.p 2 ?_ ?_ rfl rfl (fun _ _ _ h => h) (by rfl) ?_ ?_ ?_; rotate_left 2; (intro w'; go_simp; with_reducible rfl); (simp only [Rg.pq, Rg.pz, Rg.ps]; rfl)
  refine Rg.s_done ?_
  go_wp2_with fail
  go_ret
  exact ⟨rfl, hd3⟩
set_option maxRecDepth 100000 in
set_option maxHeartbeats 2000000 in
theorem text_four (x : S40) (y : S40) (yt : ByteArray) (u : S40) (ut : ByteArray) (A : Option Addr) (c : Nat) (w : World) (hG : Gx w) (hC : Kd.C k40 w A x.f4.length x.f4) (hc : x.f4.length ≤ c) (hf : x.f0 = 4) (k : Int) (hk : strengthL.getD x.f1.toNat 0 = k) (hk0 : 0 ≤ k) (hk1 : k ≤ 100) (sg : ByteArray) (hsg : signL.getD x.f1.toNat ⟨#[]⟩ = sg) (hsz : sg.size ≤ 2) (r0 : 0 ≤ x.f1) (r1 : x.f1 < 8) (ky : x.f4[0]? = some y) (Iy : IHh y k yt) (yz : yt.size ≤ 100000000000000) (ku : x.f4[1]? = some u) (Iu : IHh u (k + 1) ut) (uz : ut.size ≤ 100000000000000) :
    Calls Tryd.prog 65 #[exV A c x] w fun e w' => e = .returned (.string (yt ++ ⟨#[32]⟩ ++ sg ++ ⟨#[32]⟩ ++ ut)) ∧ Below w.heap.size w w' := by
  have HG := Lib.hid hG
  have HF := Lib.hid hf
  have e1 : (x.f0 == 1) = false := by rw [HF.out]; rfl
  have e2 : (x.f0 == 2) = false := by rw [HF.out]; rfl
  have e3 : (x.f0 == 3) = false := by rw [HF.out]; rfl
  have e5 : (x.f0 == 5) = false := by rw [HF.out]; rfl
  have e6 : (x.f0 == 6) = false := by rw [HF.out]; rfl
  obtain ⟨ad, rfl⟩ := some_addr hC (List.getElem?_eq_some_iff.1 ky).1
  have HB := Lib.hid ((Below.refl w.heap.size w).alloc (Nat.le_refl _) (.cells #[.int .i64 x.f0, .int .i64 x.f1, .int .u64 x.f2, .string x.f3, .slice (some ad) x.f4.length c] 40))
  have HT := Lib.hid (TCells.new w x (some ad) c)
  have hC2 := Kd.C_below hC HB.out
  obtain ⟨yA, yc, yE, yl, yC⟩ := kid_at hC2 0 ky
  have ly := (List.getElem?_eq_some_iff.1 ky).1
  have yL := Lib.hid (And.intro yl yC)
  have yI := Lib.hid Iy
  rw [add_zero] at yE
  obtain ⟨uA, uc, uE, ul, uC⟩ := kid_at hC2 1 ku
  have lu := (List.getElem?_eq_some_iff.1 ku).1
  have uL := Lib.hid (And.intro ul uC)
  have uI := Lib.hid Iu
  have uE : ECells ⟨ad.block, ad.off + 5, none⟩ u uA uc _ := uE
  have mu : (1 : Int) < (x.f4.length : Int) := by omega
  have hv := (HB.out.cell (World.block_lt_of_cell? w _ (hG.2.2.1 x.f1.toNat (by omega)))).trans (hG.2.2.1 x.f1.toNat (by omega))
  have hg1 := (HB.out.cell (World.block_lt_of_cell? w _ (hG.2.2.2 x.f1.toNat (by omega)))).trans (hG.2.2.2 x.f1.toNat (by omega))
  rw [hk] at hv
  have hkw : IntKind.i64.wrap (k + 1) = k + 1 := by rw [IntKind.wrap_i64]; omega
  rw [hsg] at hg1
  have hg2 := Lib.hid hg1
  clear hg1 hk hsg
  clear hG hf hC hC2 yl yC ky Iy ul uC ku Iu
  go_enter Tryd.func65, Tryd.ntmps65
  unfold exV
  go_wp2_with fail
  have hS : (fun W => TCells w.heap.size x (some ad) c W ∧ ECells ad y yA yc W ∧ ECells ⟨ad.block, ad.off + 5, none⟩ u uA uc W ∧ W.cell? ⟨2, x.f1.toNat, none⟩ = some (.string sg)) (w.alloc (.cells #[.int .i64 x.f0, .int .i64 x.f1, .int .u64 x.f2, .string x.f3, .slice (some ad) x.f4.length c] 40)).drew := ⟨HT.out, yE, uE, hg2.out⟩
  clear yE uE HT hv
  refine Rg.region_steps (S := (fun W => TCells w.heap.size x (some ad) c W ∧ ECells ad y yA yc W ∧ ECells ⟨ad.block, ad.off + 5, none⟩ u uA uc W ∧ W.cell? ⟨2, x.f1.toNat, none⟩ = some (.string sg))) [.any 0, .take 1, .any 2, .take 3, .any 4, .any 7, .take 8, .any 9, .take 10, .any 13, .take 14, .any 15, .take 16, .any 17, .any 18, .one 5, .any 6, .any 11, .any 12, .one 19, .any 20, .any 21] (by kernel_rfl) (by kernel_rfl) hS ?_
  refine Rg.p 60 ?_ ?_ rfl rfl (fun _ _ _ h => h) (by rfl) ?_ ?_ ?_; rotate_left 2; (intro w'; go_simp; with_reducible rfl); (simp only [Rg.pq, Rg.pz, Rg.ps]; rfl)
  refine Rg.t 61 ?_ ?_ rfl rfl (fun _ _ _ h => h) (by assumption) (by rfl) ?_ ?_ ?_; rotate_left 2; (rintro w' ⟨⟨s0, s1, s2, s3, s4⟩, ⟨⟨y0, y1, y2, y3, y4⟩, ⟨⟨u0, u1, u2, u3, u4⟩, sg0⟩⟩⟩; go_simp; with_reducible rfl); (simp only [Rg.pq, Rg.pz, Rg.ps]; rfl)
  refine Rg.p 62 ?_ ?_ rfl rfl (fun _ _ _ h => h) (by rfl) ?_ ?_ ?_; rotate_left 2; (intro w'; go_simp; with_reducible rfl); (simp only [Rg.pq, Rg.pz, Rg.ps]; rfl)
  refine Rg.t 63 ?_ ?_ rfl rfl (fun _ _ _ h => h) (by assumption) (by rfl) ?_ ?_ ?_; rotate_left 2; (rintro w' ⟨⟨s0, s1, s2, s3, s4⟩, ⟨⟨y0, y1, y2, y3, y4⟩, ⟨⟨u0, u1, u2, u3, u4⟩, sg0⟩⟩⟩; go_simp; with_reducible rfl); (simp only [Rg.pq, Rg.pz, Rg.ps]; rfl)
  refine Rg.p 64 ?_ ?_ rfl rfl (fun _ _ _ h => h) (by rfl) ?_ ?_ ?_; rotate_left 2; (intro w'; go_simp; with_reducible rfl); (simp only [Rg.pq, Rg.pz, Rg.ps]; rfl)
  refine Rg.p 67 ?_ ?_ rfl rfl (fun _ _ _ h => h) (by rfl) ?_ ?_ ?_; rotate_left 2; (intro w'; go_simp; with_reducible rfl); (simp only [Rg.pq, Rg.pz, Rg.ps]; rfl)
  refine Rg.t 68 ?_ ?_ rfl rfl (fun _ _ _ h => h) (by assumption) (by rfl) ?_ ?_ ?_; rotate_left 2; (rintro w' ⟨⟨s0, s1, s2, s3, s4⟩, ⟨⟨y0, y1, y2, y3, y4⟩, ⟨⟨u0, u1, u2, u3, u4⟩, sg0⟩⟩⟩; go_simp; with_reducible rfl); (simp only [Rg.pq, Rg.pz, Rg.ps]; rfl)
  refine Rg.p 69 ?_ ?_ rfl rfl (fun _ _ _ h => h) (by rfl) ?_ ?_ ?_; rotate_left 2; (intro w'; go_simp; with_reducible rfl); (simp only [Rg.pq, Rg.pz, Rg.ps]; rfl)
  refine Rg.t 70 ?_ ?_ rfl rfl (fun _ _ _ h => h) (by assumption) (by rfl) ?_ ?_ ?_; rotate_left 2; (rintro w' ⟨⟨s0, s1, s2, s3, s4⟩, ⟨⟨y0, y1, y2, y3, y4⟩, ⟨⟨u0, u1, u2, u3, u4⟩, sg0⟩⟩⟩; go_simp; with_reducible rfl); (simp only [Rg.pq, Rg.pz, Rg.ps]; rfl)
  refine Rg.p 73 ?_ ?_ rfl rfl (fun _ _ _ h => h) (by rfl) ?_ ?_ ?_; rotate_left 2; (intro w'; go_simp; with_reducible rfl); (simp only [Rg.pq, Rg.pz, Rg.ps]; rfl)
  refine Rg.t 74 ?_ ?_ rfl rfl (fun _ _ _ h => h) (by assumption) (by rfl) ?_ ?_ ?_; rotate_left 2; (rintro w' ⟨⟨s0, s1, s2, s3, s4⟩, ⟨⟨y0, y1, y2, y3, y4⟩, ⟨⟨u0, u1, u2, u3, u4⟩, sg0⟩⟩⟩; go_simp; with_reducible rfl); (simp only [Rg.pq, Rg.pz, Rg.ps]; rfl)
  refine Rg.p 75 ?_ ?_ rfl rfl (fun _ _ _ h => h) (by rfl) ?_ ?_ ?_; rotate_left 2; (intro w'; go_simp; with_reducible rfl); (simp only [Rg.pq, Rg.pz, Rg.ps]; rfl)
  refine Rg.t 76 ?_ ?_ rfl rfl (fun _ _ _ h => h) (by assumption) (by rfl) ?_ ?_ ?_; rotate_left 2; (rintro w' ⟨⟨s0, s1, s2, s3, s4⟩, ⟨⟨y0, y1, y2, y3, y4⟩, ⟨⟨u0, u1, u2, u3, u4⟩, sg0⟩⟩⟩; go_simp; with_reducible rfl); (simp only [Rg.pq, Rg.pz, Rg.ps]; rfl)
  refine Rg.p 77 ?_ ?_ rfl rfl (fun _ _ _ h => h) (by rfl) ?_ ?_ ?_; rotate_left 2; (intro w'; go_simp; with_reducible rfl); (simp only [Rg.pq, Rg.pz, Rg.ps]; rfl)
  refine Rg.p 78 ?_ ?_ rfl rfl (fun _ _ _ h => h) (by rfl) ?_ ?_ ?_; rotate_left 2; (intro w'; go_simp; with_reducible rfl); (simp only [Rg.pq, Rg.pz, Rg.ps]; rfl)
  refine Rg.s_call (N := some 65) rfl rfl Tryd.func88 (by kernel_rfl) rfl #[.agg #[.int .i64 y.f0, .int .i64 y.f1, .int .u64 y.f2, .string y.f3, .slice yA y.f4.length yc], .int .i64 k] (by rfl) rfl (by (try simp only [List.map_toArray, List.map_cons, List.map_nil]); first | done | rfl) ?_
  refine (yI.out yA yc _ (HG.out.below (HB.out.drew)) (Kd.C_below yL.out.2 (Below.refl _ _).drew) yL.out.1).mono ?_
  rintro e w2 ⟨rfl, hc0⟩
  have hS2 : (fun W => TCells w.heap.size x (some ad) c W ∧ ECells ad y yA yc W ∧ ECells ⟨ad.block, ad.off + 5, none⟩ u uA uc W ∧ W.cell? ⟨2, x.f1.toNat, none⟩ = some (.string sg)) w2 := ⟨hS.1.below hc0, ⟨hS.2.1.below hc0, ⟨hS.2.2.1.below hc0, (hc0.cell (World.block_lt_of_cell? _ _ hS.2.2.2)).trans hS.2.2.2⟩⟩⟩
  have hd1 := below_next (HB.out.drew) (by first | exact Nat.le_refl _ | simp) hc0
  have he1 := below_next ((Below.refl _ _).drew) (Nat.le_refl _) hc0
  clear hS hc0
  refine ⟨hS2, ?_⟩
  refine Rg.s_norm (a' := ?_) ?_ ?_; rotate_left; (simp only [Act.put, List.setIfInBounds_toArray, List.set_cons_zero, List.set_cons_succ]; rfl)
  refine Rg.p 66 ?_ ?_ rfl rfl (fun _ _ _ h => h) (by rfl) ?_ ?_ ?_; rotate_left 2; (focus (intro w'; apply add_run; exact rfl; exact rfl; exact rfl; all_goals (first | (with_reducible rfl) | omega | (simp only [ByteArray.size_append, lit1, lit3]; omega)))); (simp only [Rg.pq, Rg.pz, Rg.ps]; rfl)
  refine Rg.p 71 ?_ ?_ rfl rfl (fun _ _ _ h => h) (by rfl) ?_ ?_ ?_; rotate_left 2; (focus (intro w'; apply add_run; exact rfl; exact rfl; exact rfl; all_goals (first | (with_reducible rfl) | omega | (simp only [ByteArray.size_append, lit1, lit3]; omega)))); (simp only [Rg.pq, Rg.pz, Rg.ps]; rfl)
  refine Rg.p 72 ?_ ?_ rfl rfl (fun _ _ _ h => h) (by rfl) ?_ ?_ ?_; rotate_left 2; (focus (intro w'; apply add_run; exact rfl; exact rfl; exact rfl; all_goals (first | (with_reducible rfl) | omega | (simp only [ByteArray.size_append, lit1, lit3]; omega)))); (simp only [Rg.pq, Rg.pz, Rg.ps]; rfl)
  refine Rg.s_call (N := some 79) rfl rfl Tryd.func88 (by kernel_rfl) rfl #[.agg #[.int .i64 u.f0, .int .i64 u.f1, .int .u64 u.f2, .string u.f3, .slice uA u.f4.length uc], .int .i64 (k + 1)] (by rfl) rfl (by (try simp only [List.map_toArray, List.map_cons, List.map_nil]); first | done | rfl) ?_
  refine (uI.out uA uc _ (HG.out.below hd1) (Kd.C_below uL.out.2 (he1)) uL.out.1).mono ?_
  rintro e w3 ⟨rfl, hc1⟩
  have hS3 : (fun W => TCells w.heap.size x (some ad) c W ∧ ECells ad y yA yc W ∧ ECells ⟨ad.block, ad.off + 5, none⟩ u uA uc W ∧ W.cell? ⟨2, x.f1.toNat, none⟩ = some (.string sg)) w3 := ⟨hS2.1.below hc1, ⟨hS2.2.1.below hc1, ⟨hS2.2.2.1.below hc1, (hc1.cell (World.block_lt_of_cell? _ _ hS2.2.2.2)).trans hS2.2.2.2⟩⟩⟩
  have hd2 := below_next hd1 (by first | exact Nat.le_refl _ | simp) hc1
  have he2 := below_next he1 (by first | exact Nat.le_refl _ | exact he1.size) hc1
  clear hS2 hc1
  refine ⟨hS3, ?_⟩
  refine Rg.s_norm (a' := ?_) ?_ ?_; rotate_left; (simp only [Act.put, List.setIfInBounds_toArray, List.set_cons_zero, List.set_cons_succ]; rfl)
  refine Rg.p 80 ?_ ?_ rfl rfl (fun _ _ _ h => h) (by rfl) ?_ ?_ ?_; rotate_left 2; (focus (intro w'; apply add_run; exact rfl; exact rfl; exact rfl; all_goals (first | (with_reducible rfl) | omega | (simp only [ByteArray.size_append, lit1, lit3]; omega)))); (simp only [Rg.pq, Rg.pz, Rg.ps]; rfl)
  refine Rg.p 2 ?_ ?_ rfl rfl (fun _ _ _ h => h) (by rfl) ?_ ?_ ?_; rotate_left 2; (intro w'; go_simp; with_reducible rfl); (simp only [Rg.pq, Rg.pz, Rg.ps]; rfl)
  refine Rg.s_done ?_
  go_wp2_with fail
  go_ret
  exact ⟨rfl, hd2⟩
def kidE (x : S40) (i : Nat) : S40 := x.f4.getD i z40
def hld (y : S40) (least : Int) (t : ByteArray) : ByteArray := wrapT (decide (strengthF y < least)) t
def txt : Nat → S40 → ByteArray
  | 0, _ => ⟨#[]⟩
  | n + 1, x =>
    if x.f0 = 1 then dec x.f2.toNat
    else if x.f0 = 2 then x.f3
    else if x.f0 = 3 then x.f3 ++ ⟨#[91]⟩ ++ txt n (kidE x 0) ++ ⟨#[93]⟩
    else if x.f0 = 5 then ⟨#[33]⟩ ++ hld (kidE x 0) 8 (txt n (kidE x 0))
    else if x.f0 = 6 then hld (kidE x 0) 2 (txt n (kidE x 0)) ++ ⟨#[32, 63, 32]⟩ ++ txt n (kidE x 1) ++ ⟨#[32, 58, 32]⟩ ++ txt n (kidE x 2)
    else hld (kidE x 0) (strengthL.getD x.f1.toNat 0) (txt n (kidE x 0)) ++ ⟨#[32]⟩ ++ signL.getD x.f1.toNat ⟨#[]⟩ ++ ⟨#[32]⟩ ++ hld (kidE x 1) (strengthL.getD x.f1.toNat 0 + 1) (txt n (kidE x 1))
theorem wrapT_size (b : Bool) (t : ByteArray) : (wrapT b t).size ≤ t.size + 2 := by
  unfold wrapT
  split
  · simp only [ByteArray.size_append, lit1]; omega
  · omega
theorem hld_size (y : S40) (least : Int) (t : ByteArray) : (hld y least t).size ≤ t.size + 2 := wrapT_size _ _
theorem dec_size (u : Nat) (h : u < 18446744073709551616) : (dec u).size ≤ 20 := by
  show (Lib.decDigits u).toArray.size ≤ 20
  rw [List.size_toArray, Lib.decDigits_length]
  rcases Nat.eq_zero_or_pos u with h0 | h0
  · subst h0; rw [Lib.nDigits_small (by omega)]; omega
  · have := Lib.numDigits_eq u h0 h; split at this <;> omega
theorem name_size {s : ByteArray} (h : Px.isName s.data.toList = true) : s.size ≤ 20 := by
  have e : s.data.toList.length = s.size := by rw [Array.length_toList]; rfl
  rw [← e]
  unfold Px.isName at h
  split at h
  · cases h
  · simp only [Bool.and_eq_true, decide_eq_true_eq] at h
    exact h.1.2
structure Node (n : Nat) (x : S40) : Prop where
  kind : x.f0 = 1 ∨ x.f0 = 2 ∨ x.f0 = 3 ∨ x.f0 = 4 ∨ x.f0 = 5 ∨ x.f0 = 6
  len : (x.f4.length : Int) = kidsN x.f0
  num : x.f0 = 1 → x.f2 ≤ 1152921504606846975
  name : x.f0 = 2 ∨ x.f0 = 3 → x.f3.size ≤ 20
  op : x.f0 = 4 → 1 ≤ x.f1 ∧ x.f1 ≤ 7
  kids : ∀ y ∈ x.f4, exprB n y = true
theorem node_of {n : Nat} {x : S40} (h : exprB (n + 1) x = true) : Node n x := by
  simp only [exprB, Bool.and_eq_true, shapeOk, List.all_eq_true] at h
  obtain ⟨⟨⟨⟨⟨⟨hk, _⟩, _⟩, _⟩, hl⟩, ho⟩, ha⟩ := h
  refine ⟨?_, by simpa using hl, ?_, ?_, ?_, ha⟩
  · simp only [known, Bool.or_eq_true, beq_iff_eq] at hk; omega
  · intro e; simp [kindOk, e] at ho; exact ho
  · intro e
    refine name_size ?_
    rcases e with e | e <;> (simp [kindOk, e] at ho; exact ho)
  · intro e; simp [kindOk, e] at ho; exact ho
theorem kid_mem {x : S40} {i : Nat} (h : i < x.f4.length) : x.f4[i]? = some (kidE x i) ∧ kidE x i ∈ x.f4 := by
  have e : kidE x i = x.f4[i] := by simp [kidE, List.getD_eq_getElem?_getD, h]
  rw [e]
  exact ⟨List.getElem?_eq_getElem h, List.getElem_mem h⟩
theorem strengthL_le (k : Nat) : 0 ≤ strengthL.getD k 0 ∧ strengthL.getD k 0 ≤ 100 := by
  rcases Nat.lt_or_ge k 8 with h | h
  · have : ∀ j, j < 8 → 0 ≤ strengthL.getD j 0 ∧ strengthL.getD j 0 ≤ 100 := by decide
    exact this k h
  · rw [List.getD_eq_getElem?_getD, List.getElem?_eq_none (by exact h)]; decide
theorem signL_le (k : Nat) : (signL.getD k ⟨#[]⟩).size ≤ 2 := by
  rcases Nat.lt_or_ge k 8 with h | h
  · have : ∀ j, j < 8 → (signL.getD j ⟨#[]⟩).size ≤ 2 := by decide
    exact this k h
  · rw [List.getD_eq_getElem?_getD, List.getElem?_eq_none (by exact h)]; decide
theorem txt_size : ∀ (n : Nat) (x : S40), exprB n x = true → (txt n x).size + 4 ≤ 36 * 3 ^ n
  | 0, x, h => by cases h
  | n + 1, x, h => by
    have N := node_of h
    have hp : 1 ≤ 3 ^ n := Nat.one_le_pow _ _ (by omega)
    have hpow : 36 * 3 ^ (n + 1) = 108 * 3 ^ n := by rw [Nat.pow_succ]; omega
    have IH : ∀ i, i < x.f4.length → (txt n (kidE x i)).size + 4 ≤ 36 * 3 ^ n := fun i hi => txt_size n _ (N.kids _ (kid_mem hi).2)
    have hl := N.len
    rw [hpow]
    unfold txt
    by_cases e1 : x.f0 = 1
    · rw [if_pos e1]
      have h2 := N.num e1
      have := dec_size x.f2.toNat (by omega)
      omega
    rw [if_neg e1]
    by_cases e2 : x.f0 = 2
    · rw [if_pos e2]
      have := N.name (.inl e2)
      omega
    rw [if_neg e2]
    by_cases e3 : x.f0 = 3
    · rw [if_pos e3]
      have h3 := N.name (.inr e3)
      have := IH 0 (by rw [e3] at hl; simp [kidsN] at hl; omega)
      simp only [ByteArray.size_append, lit1]
      omega
    rw [if_neg e3]
    by_cases e5 : x.f0 = 5
    · rw [if_pos e5]
      have := IH 0 (by rw [e5] at hl; simp [kidsN] at hl; omega)
      have h6 := hld_size (kidE x 0) 8 (txt n (kidE x 0))
      simp only [ByteArray.size_append, lit1]
      omega
    rw [if_neg e5]
    by_cases e6 : x.f0 = 6
    · rw [if_pos e6]
      rw [e6] at hl; simp [kidsN] at hl
      have k0 := IH 0 (by omega)
      have k1 := IH 1 (by omega)
      have k2 := IH 2 (by omega)
      have h6 := hld_size (kidE x 0) 2 (txt n (kidE x 0))
      simp only [ByteArray.size_append, lit3]
      omega
    rw [if_neg e6]
    have e4 : x.f0 = 4 := by have := N.kind; omega
    rw [e4] at hl; simp [kidsN] at hl
    have k0 := IH 0 (by omega)
    have k1 := IH 1 (by omega)
    have h0 := hld_size (kidE x 0) (strengthL.getD x.f1.toNat 0) (txt n (kidE x 0))
    have h1 := hld_size (kidE x 1) (strengthL.getD x.f1.toNat 0 + 1) (txt n (kidE x 1))
    have h2 := signL_le x.f1.toNat
    simp only [ByteArray.size_append, lit1]
    omega
theorem pow_small {n : Nat} (h : n ≤ 24) : 36 * 3 ^ n ≤ 90000000000000 := by
  have := Nat.pow_le_pow_right (show 3 > 0 by omega) h
  have e : 3 ^ 24 = 282429536481 := by decide
  omega
theorem text_calls : ∀ (n : Nat), n ≤ 25 → ∀ (x : S40), OkE x → exprB n x = true → IHt x (txt n x)
  | 0, _, x, hO, h => by cases h
  | n + 1, hn, x, hO, h => by
    have N := node_of h
    have hl := N.len
    obtain ⟨f20, f21, f3z, f4z, hkk⟩ := hO
    have hz : x.f3.size ≤ 100000000000000 → x.f3.size ≤ 100000000000000 := id
    have IT : ∀ i, i < x.f4.length → IHt (kidE x i) (txt n (kidE x i)) := fun i hi => text_calls n (by omega) _ (hkk _ (kid_mem hi).2) (N.kids _ (kid_mem hi).2)
    have SZ : ∀ i, i < x.f4.length → (txt n (kidE x i)).size ≤ 99000000000000 := fun i hi => by
      have := txt_size n _ (N.kids _ (kid_mem hi).2)
      have := pow_small (show n ≤ 24 by omega)
      omega
    have OP : ∀ i, i < x.f4.length → (kidE x i).f0 = 4 → 1 ≤ (kidE x i).f1 ∧ (kidE x i).f1 ≤ 7 := fun i hi => by
      have hk := N.kids _ (kid_mem hi).2
      cases n with
      | zero => cases hk
      | succ m => exact (node_of hk).op
    have IH : ∀ i least, i < x.f4.length → IHh (kidE x i) least (hld (kidE x i) least (txt n (kidE x i))) := fun i least hi => held_calls_ _ least _ (by have := SZ i hi; omega) (IT i hi) (OP i hi)
    have HZ : ∀ i least, i < x.f4.length → (hld (kidE x i) least (txt n (kidE x i))).size ≤ 100000000000000 := fun i least hi => by
      have := hld_size (kidE x i) least (txt n (kidE x i))
      have := SZ i hi
      omega
    intro A c w hG hC hc
    unfold txt
    by_cases e1 : x.f0 = 1
    · rw [if_pos e1]
      exact text_one x A c w hG hC hc e1 f20 f21
    rw [if_neg e1]
    by_cases e2 : x.f0 = 2
    · rw [if_pos e2]
      exact text_two x A c w hG hC hc e2
    rw [if_neg e2]
    by_cases e3 : x.f0 = 3
    · rw [if_pos e3]
      have h0 : 0 < x.f4.length := by rw [e3] at hl; simp [kidsN] at hl; omega
      exact text_three x (kidE x 0) _ A c w hG hC hc e3 (kid_mem h0).1 (IT 0 h0) (by have := SZ 0 h0; omega) (by have := N.name (.inr e3); omega)
    rw [if_neg e3]
    by_cases e5 : x.f0 = 5
    · rw [if_pos e5]
      have h0 : 0 < x.f4.length := by rw [e5] at hl; simp [kidsN] at hl; omega
      exact text_five x (kidE x 0) _ A c w hG hC hc e5 (kid_mem h0).1 (IH 0 8 h0) (HZ 0 8 h0)
    rw [if_neg e5]
    by_cases e6 : x.f0 = 6
    · rw [if_pos e6]
      rw [e6] at hl; simp [kidsN] at hl
      have h0 : 0 < x.f4.length := by omega
      have h1 : 1 < x.f4.length := by omega
      have h2 : 2 < x.f4.length := by omega
      exact text_six x (kidE x 0) _ (kidE x 1) _ (kidE x 2) _ A c w hG hC hc e6 (kid_mem h0).1 (IH 0 2 h0) (HZ 0 2 h0) (kid_mem h1).1 (IT 1 h1) (by have := SZ 1 h1; omega) (kid_mem h2).1 (IT 2 h2) (by have := SZ 2 h2; omega)
    rw [if_neg e6]
    have e4 : x.f0 = 4 := by have := N.kind; omega
    have hop := N.op e4
    rw [e4] at hl; simp [kidsN] at hl
    have h0 : 0 < x.f4.length := by omega
    have h1 : 1 < x.f4.length := by omega
    exact text_four x (kidE x 0) _ (kidE x 1) _ A c w hG hC hc e4 _ rfl (strengthL_le _).1 (strengthL_le _).2 _ rfl (signL_le _) (by omega) (by omega) (kid_mem h0).1 (IH 0 _ h0) (HZ 0 _ h0) (kid_mem h1).1 (IH 1 _ h1) (HZ 1 _ h1)
end Go.Proofs.YtlhnfgnihakcfaaDoor.Ax
