import Derived.Test.YtlhnfgnihakcfaaDoorA3
import Derived.Test.YtlhnfgnihakcfaaDoorA4
import Derived.IntWalk
import Derived.ChangeArms
import Derived.ChangeSame
import GoSem.ClaimJoined
import Derived.DataElems
set_option linter.unusedSimpArgs false
set_option linter.unusedVariables false
/- privityref27.SameExpr. -/
namespace Go.Proofs.YtlhnfgnihakcfaaDoor.Ax
open Go.RowKit Hp Kn
open Go.Proofs.YtlhnfgnihakcfaaDoorW.PrintWords Go.Proofs.YtlhnfgnihakcfaaDoorW.PrintLast Go.Proofs.YtlhnfgnihakcfaaDoorW.PrintMore
theorem eqP_pos {α : Type} (l m : List α) (hl : l.length = m.length) (h : ∀ (j : Nat) x y, l[j]? = some x → m[j]? = some y → eqP x y = true) : eqP l m = true := by
  rw [← allP_eq]; exact allP_true hl h
theorem eqP_neg {α : Type} {l m : List α} {k : Nat} {x y : α} (h1 : l[k]? = some x) (h2 : m[k]? = some y) (h : eqP x y = false) : eqP l m = false := by
  rw [← allP_eq]; exact allP_false h1 h2 h
set_option maxRecDepth 100000 in
theorem rsameE_no0 (x y : S40) (A4 : Option Addr) (c4 : Nat) (B4 : Option Addr) (d4 : Nat) (w : World) (hC : Kd.C k40 w A4 x.f4.length x.f4) (hc : x.f4.length ≤ c4) (hD : Kd.C k40 w B4 y.f4.length y.f4) (hd : y.f4.length ≤ d4)
     (q0 : (x.f0 != y.f0) = true) :
    Calls Tryd.prog 60 #[exV A4 c4 x, exV B4 d4 y] w fun e w' => e = .returned (.bool false) ∧ Below w.heap.size w w' := by
  have hB := (Below.refl w.heap.size w).alloc (Nat.le_refl _) (.cells #[.int .i64 x.f0, .int .i64 x.f1, .int .u64 x.f2, .string x.f3, .slice A4 x.f4.length c4] 40)
  have hB2 := hB.alloc hB.size (.cells #[.int .i64 y.f0, .int .i64 y.f1, .int .u64 y.f2, .string y.f3, .slice B4 y.f4.length d4] 40)
  have HB := Lib.hid hB2
  clear hB hB2 hC hD
  go_enter Tryd.func60, Tryd.ntmps60
  unfold exV
  go_wp2_with fail
  go_ret
  exact ⟨rfl, HB.out⟩
set_option maxRecDepth 100000 in
theorem rsameE_no1 (x y : S40) (A4 : Option Addr) (c4 : Nat) (B4 : Option Addr) (d4 : Nat) (w : World) (hC : Kd.C k40 w A4 x.f4.length x.f4) (hc : x.f4.length ≤ c4) (hD : Kd.C k40 w B4 y.f4.length y.f4) (hd : y.f4.length ≤ d4)
    (q0 : (x.f0 != y.f0) = false) (q1 : (x.f1 != y.f1) = true) :
    Calls Tryd.prog 60 #[exV A4 c4 x, exV B4 d4 y] w fun e w' => e = .returned (.bool false) ∧ Below w.heap.size w w' := by
  have hB := (Below.refl w.heap.size w).alloc (Nat.le_refl _) (.cells #[.int .i64 x.f0, .int .i64 x.f1, .int .u64 x.f2, .string x.f3, .slice A4 x.f4.length c4] 40)
  have hB2 := hB.alloc hB.size (.cells #[.int .i64 y.f0, .int .i64 y.f1, .int .u64 y.f2, .string y.f3, .slice B4 y.f4.length d4] 40)
  have HB := Lib.hid hB2
  clear hB hB2 hC hD
  go_enter Tryd.func60, Tryd.ntmps60
  unfold exV
  go_wp2_with fail
  go_ret
  exact ⟨rfl, HB.out⟩
set_option maxRecDepth 100000 in
theorem rsameE_no2 (x y : S40) (A4 : Option Addr) (c4 : Nat) (B4 : Option Addr) (d4 : Nat) (w : World) (hC : Kd.C k40 w A4 x.f4.length x.f4) (hc : x.f4.length ≤ c4) (hD : Kd.C k40 w B4 y.f4.length y.f4) (hd : y.f4.length ≤ d4)
    (q0 : (x.f0 != y.f0) = false) (q1 : (x.f1 != y.f1) = false) (q2 : (x.f2 != y.f2) = true) :
    Calls Tryd.prog 60 #[exV A4 c4 x, exV B4 d4 y] w fun e w' => e = .returned (.bool false) ∧ Below w.heap.size w w' := by
  have hB := (Below.refl w.heap.size w).alloc (Nat.le_refl _) (.cells #[.int .i64 x.f0, .int .i64 x.f1, .int .u64 x.f2, .string x.f3, .slice A4 x.f4.length c4] 40)
  have hB2 := hB.alloc hB.size (.cells #[.int .i64 y.f0, .int .i64 y.f1, .int .u64 y.f2, .string y.f3, .slice B4 y.f4.length d4] 40)
  have HB := Lib.hid hB2
  clear hB hB2 hC hD
  go_enter Tryd.func60, Tryd.ntmps60
  unfold exV
  go_wp2_with fail
  go_ret
  exact ⟨rfl, HB.out⟩
set_option maxRecDepth 100000 in
theorem rsameE_no3 (x y : S40) (A4 : Option Addr) (c4 : Nat) (B4 : Option Addr) (d4 : Nat) (w : World) (hC : Kd.C k40 w A4 x.f4.length x.f4) (hc : x.f4.length ≤ c4) (hD : Kd.C k40 w B4 y.f4.length y.f4) (hd : y.f4.length ≤ d4)
    (q0 : (x.f0 != y.f0) = false) (q1 : (x.f1 != y.f1) = false) (q2 : (x.f2 != y.f2) = false) (q3 : (x.f3.toList == y.f3.toList) = false) :
    Calls Tryd.prog 60 #[exV A4 c4 x, exV B4 d4 y] w fun e w' => e = .returned (.bool false) ∧ Below w.heap.size w w' := by
  have hB := (Below.refl w.heap.size w).alloc (Nat.le_refl _) (.cells #[.int .i64 x.f0, .int .i64 x.f1, .int .u64 x.f2, .string x.f3, .slice A4 x.f4.length c4] 40)
  have hB2 := hB.alloc hB.size (.cells #[.int .i64 y.f0, .int .i64 y.f1, .int .u64 y.f2, .string y.f3, .slice B4 y.f4.length d4] 40)
  have HB := Lib.hid hB2
  clear hB hB2 hC hD
  go_enter Tryd.func60, Tryd.ntmps60
  unfold exV
  go_wp2_with fail
  go_ret
  exact ⟨rfl, HB.out⟩
set_option maxRecDepth 100000 in
theorem rsameE_no4 (x y : S40) (A4 : Option Addr) (c4 : Nat) (B4 : Option Addr) (d4 : Nat) (w : World) (hC : Kd.C k40 w A4 x.f4.length x.f4) (hc : x.f4.length ≤ c4) (hD : Kd.C k40 w B4 y.f4.length y.f4) (hd : y.f4.length ≤ d4)
    (q0 : (x.f0 != y.f0) = false) (q1 : (x.f1 != y.f1) = false) (q2 : (x.f2 != y.f2) = false) (q3 : (x.f3.toList == y.f3.toList) = true) (q4 : ((x.f4.length : Int) != (y.f4.length : Int)) = true) :
    Calls Tryd.prog 60 #[exV A4 c4 x, exV B4 d4 y] w fun e w' => e = .returned (.bool false) ∧ Below w.heap.size w w' := by
  have hB := (Below.refl w.heap.size w).alloc (Nat.le_refl _) (.cells #[.int .i64 x.f0, .int .i64 x.f1, .int .u64 x.f2, .string x.f3, .slice A4 x.f4.length c4] 40)
  have hB2 := hB.alloc hB.size (.cells #[.int .i64 y.f0, .int .i64 y.f1, .int .u64 y.f2, .string y.f3, .slice B4 y.f4.length d4] 40)
  have HB := Lib.hid hB2
  clear hB hB2 hC hD
  go_enter Tryd.func60, Tryd.ntmps60
  unfold exV
  go_wp2_with fail
  go_ret
  exact ⟨rfl, HB.out⟩
set_option maxRecDepth 100000 in
set_option maxHeartbeats 1000000 in
theorem rsameE_yes (x y : S40) (A4 : Option Addr) (c4 : Nat) (B4 : Option Addr) (d4 : Nat) (w : World) (hC : Kd.C k40 w A4 x.f4.length x.f4) (hc : x.f4.length ≤ c4) (hD : Kd.C k40 w B4 y.f4.length y.f4) (hd : y.f4.length ≤ d4) (hlm : x.f4.length = y.f4.length) (hlen : x.f4.length ≤ 140737488351232) (hT : ∀ a ∈ x.f4, ∀ b ∈ y.f4, ∀ (w : World), TestEE w 60 eqP a b)
    (q0 : (x.f0 != y.f0) = false) (q1 : (x.f1 != y.f1) = false) (q2 : (x.f2 != y.f2) = false) (q3 : (x.f3.toList == y.f3.toList) = true) (q4 : ((x.f4.length : Int) != (y.f4.length : Int)) = false) :
    Calls Tryd.prog 60 #[exV A4 c4 x, exV B4 d4 y] w fun e w' => e = .returned (.bool (eqP x.f4 y.f4)) ∧ Below w.heap.size w w' := by
  have HC := Lib.hid (And.intro hC hD)
  have HM := Lib.hid hlm
  have HT := Lib.hid hT
  have hB := (Below.refl w.heap.size w).alloc (Nat.le_refl _) (.cells #[.int .i64 x.f0, .int .i64 x.f1, .int .u64 x.f2, .string x.f3, .slice A4 x.f4.length c4] 40)
  have hB2 := hB.alloc hB.size (.cells #[.int .i64 y.f0, .int .i64 y.f1, .int .u64 y.f2, .string y.f3, .slice B4 y.f4.length d4] 40)
  have HB := Lib.hid hB2
  have HS := Lib.hid (show TCells w.heap.size x A4 c4 _ ∧ TCells (w.heap.size + 1) y B4 d4 _ from ⟨(TCells.new w x A4 c4).below ((Below.refl _ _).alloc (Nat.le_refl _) (.cells #[.int .i64 y.f0, .int .i64 y.f1, .int .u64 y.f2, .string y.f3, .slice B4 y.f4.length d4] 40)), by have := TCells.new (w.alloc (.cells #[.int .i64 x.f0, .int .i64 x.f1, .int .u64 x.f2, .string x.f3, .slice A4 x.f4.length c4] 40)) y B4 d4; simpa using this⟩)
  clear hC hD hT hB hB2 hlm
  go_enter Tryd.func60, Tryd.ntmps60
  unfold exV
  go_wp2
  clear q0 q1 q2 q3 q4
  go_loopw [5] (fun i wr => ∃ k : Nat, k ≤ x.f4.length ∧ i = .int .i64 k ∧ Hid (∀ (j : Nat) a b, j < k → x.f4[j]? = some a → y.f4[j]? = some b → eqP a b = true) ∧ Hid (Below w.heap.size w wr ∧ TCells w.heap.size x A4 c4 wr ∧ TCells (w.heap.size + 1) y B4 d4 wr)) (fun i _ => x.f4.length - (intOf i).toNat)
  case atStart => exact ⟨0, by omega, rfl, Lib.hid (fun j a b h => absurd h (by omega)), Lib.hid ⟨HB.out, HS.out⟩⟩
  case round =>
    obtain ⟨k, hk, rfl, hst, hb⟩ := hrel
    have s0 := hb.out.2.1.2.2.2.2
    have s1 := hb.out.2.2.2.2.2.2
    by_cases hlt : k < x.f4.length
    · have hlt2 : k < y.f4.length := by have := HM.out; omega
      have hi1 : (k : Int) < (x.f4.length : Int) := by omega
      have hi2 : (k : Int) < (y.f4.length : Int) := by omega
      obtain ⟨ad, rfl⟩ := some_addr HC.out.1 (by omega)
      obtain ⟨bd, rfl⟩ := some_addr HC.out.2 (by omega)
      obtain ⟨a, ha⟩ : ∃ a, x.f4[k]? = some a := ⟨_, List.getElem?_eq_getElem hlt⟩
      obtain ⟨b, hbb⟩ : ∃ b, y.f4[k]? = some b := ⟨_, List.getElem?_eq_getElem hlt2⟩
      obtain ⟨aA, ac, aE, al, aC⟩ := kid_at (Kd.C_below HC.out.1 hb.out.1) k ha
      obtain ⟨bA, bc, bE, bl, bC⟩ := kid_at (Kd.C_below HC.out.2 hb.out.1) k hbb
      have HH := Lib.hid (And.intro ha (And.intro hbb (And.intro al (And.intro aC (And.intro bl bC)))))
      have HX := Lib.hid (HT.out a (List.mem_of_getElem? ha) b (List.mem_of_getElem? hbb))
      have HS1 := Lib.hid (show (fun W => TCells w.heap.size x (some ad) c4 W ∧ TCells (w.heap.size + 1) y (some bd) d4 W ∧ ECells (ad.add (k * 5)) a aA ac W ∧ ECells (bd.add (k * 5)) b bA bc W) wr from ⟨hb.out.2.1, hb.out.2.2, aE, bE⟩)
      clear ha hbb al aC bl bC aE bE
      go_wp2_with fail
      clear s0 s1
      have hS : (fun W => TCells w.heap.size x (some ad) c4 W ∧ TCells (w.heap.size + 1) y (some bd) d4 W ∧ ECells (ad.add (k * 5)) a aA ac W ∧ ECells (bd.add (k * 5)) b bA bc W) wr.drew := HS1.out
      refine Rg.region_steps (S := (fun W => TCells w.heap.size x (some ad) c4 W ∧ TCells (w.heap.size + 1) y (some bd) d4 W ∧ ECells (ad.add (k * 5)) a aA ac W ∧ ECells (bd.add (k * 5)) b bA bc W)) [.any 0, .take 1, .any 2, .any 3, .take 4, .any 5, .take 6, .any 7, .any 8, .take 9, .one 10, .any 11] (by kernel_rfl) (by kernel_rfl) hS ?_
      refine Rg.p 48 ?_ ?_ rfl rfl (fun _ _ _ h => h) (by rfl) ?_ ?_ ?_; rotate_left 2; (intro w'; go_simp; with_reducible rfl); (simp only [Rg.pq, Rg.pz, Rg.ps]; rfl)
      refine Rg.t 49 ?_ ?_ rfl rfl (fun _ _ _ h => h) (by assumption) (by rfl) ?_ ?_ ?_; rotate_left 2; (rintro w' ⟨⟨x0, x1, x2, x3, x4⟩, ⟨y0, y1, y2, y3, y4⟩, ⟨a0, a1, a2, a3, a4⟩, ⟨b0, b1, b2, b3, b4⟩⟩; go_simp; with_reducible rfl); (simp only [Rg.pq, Rg.pz, Rg.ps]; rfl)
      refine Rg.p 50 ?_ ?_ rfl rfl (fun _ _ _ h => h) (by rfl) ?_ ?_ ?_; rotate_left 2; (intro w'; go_simp; with_reducible rfl); (simp only [Rg.pq, Rg.pz, Rg.ps]; rfl)
      refine Rg.p 51 ?_ ?_ rfl rfl (fun _ _ _ h => h) (by rfl) ?_ ?_ ?_; rotate_left 2; (intro w'; go_simp; with_reducible rfl); (simp only [Rg.pq, Rg.pz, Rg.ps]; rfl)
      refine Rg.t 52 ?_ ?_ rfl rfl (fun _ _ _ h => h) (by assumption) (by rfl) ?_ ?_ ?_; rotate_left 2; (rintro w' ⟨⟨x0, x1, x2, x3, x4⟩, ⟨y0, y1, y2, y3, y4⟩, ⟨a0, a1, a2, a3, a4⟩, ⟨b0, b1, b2, b3, b4⟩⟩; go_simp; with_reducible rfl); (simp only [Rg.pq, Rg.pz, Rg.ps]; rfl)
      refine Rg.p 53 ?_ ?_ rfl rfl (fun _ _ _ h => h) (by rfl) ?_ ?_ ?_; rotate_left 2; (intro w'; go_simp; with_reducible rfl); (simp only [Rg.pq, Rg.pz, Rg.ps]; rfl)
      refine Rg.t 54 ?_ ?_ rfl rfl (fun _ _ _ h => h) (by assumption) (by rfl) ?_ ?_ ?_; rotate_left 2; (rintro w' ⟨⟨x0, x1, x2, x3, x4⟩, ⟨y0, y1, y2, y3, y4⟩, ⟨a0, a1, a2, a3, a4⟩, ⟨b0, b1, b2, b3, b4⟩⟩; go_simp; with_reducible rfl); (simp only [Rg.pq, Rg.pz, Rg.ps]; rfl)
      refine Rg.p 55 ?_ ?_ rfl rfl (fun _ _ _ h => h) (by rfl) ?_ ?_ ?_; rotate_left 2; (intro w'; go_simp; with_reducible rfl); (simp only [Rg.pq, Rg.pz, Rg.ps]; rfl)
      refine Rg.p 56 ?_ ?_ rfl rfl (fun _ _ _ h => h) (by rfl) ?_ ?_ ?_; rotate_left 2; (intro w'; go_simp; with_reducible rfl); (simp only [Rg.pq, Rg.pz, Rg.ps]; rfl)
      refine Rg.t 57 ?_ ?_ rfl rfl (fun _ _ _ h => h) (by assumption) (by rfl) ?_ ?_ ?_; rotate_left 2; (rintro w' ⟨⟨x0, x1, x2, x3, x4⟩, ⟨y0, y1, y2, y3, y4⟩, ⟨a0, a1, a2, a3, a4⟩, ⟨b0, b1, b2, b3, b4⟩⟩; go_simp; with_reducible rfl); (simp only [Rg.pq, Rg.pz, Rg.ps]; rfl)
      have HS1 := Lib.hid hS
      have HDr := Lib.hid (Below.refl wr.heap.size wr).drew
      refine Rg.s_call (N := some 58) rfl rfl Tryd.func60 (by kernel_rfl) rfl #[.agg #[.int .i64 a.f0, .int .i64 a.f1, .int .u64 a.f2, .string a.f3, .slice aA a.f4.length ac], .agg #[.int .i64 b.f0, .int .i64 b.f1, .int .u64 b.f2, .string b.f3, .slice bA b.f4.length bc]] (by rfl) rfl (by (try simp only [List.map_toArray, List.map_cons, List.map_nil]); first | done | rfl) ?_
      refine (HX.out _ wr.drew aA ac bA bc (Below.refl _ _) (Kd.C_below HH.out.2.2.2.1 HDr.out) HH.out.2.2.1 (Kd.C_below HH.out.2.2.2.2.2 HDr.out) HH.out.2.2.2.2.1).mono ?_
      rintro e w2 ⟨rfl, hc⟩
      have HD := Lib.hid (below_next HDr.out (Nat.le_refl _) hc)
      have HS2 := Lib.hid (show (fun W => TCells w.heap.size x (some ad) c4 W ∧ TCells (w.heap.size + 1) y (some bd) d4 W ∧ ECells (ad.add (k * 5)) a aA ac W ∧ ECells (bd.add (k * 5)) b bA bc W) w2 from ⟨HS1.out.1.below hc, HS1.out.2.1.below hc, HS1.out.2.2.1.below hc, HS1.out.2.2.2.below hc⟩)
      clear hc
      cases hp : eqP a b with
      | false =>
        refine ⟨HS2.out, ?_⟩
        refine Rg.s_norm (a' := ?_) ?_ ?_; rotate_left; (simp only [Act.put, List.setIfInBounds_toArray, List.set_cons_zero, List.set_cons_succ]; rfl)
        refine Rg.p 59 ?_ ?_ rfl rfl (fun _ _ _ h => h) (by rfl) ?_ ?_ ?_; rotate_left 2; (intro w'; go_simp; with_reducible rfl); (simp only [Rg.pq, Rg.pz, Rg.ps]; rfl)
        refine Rg.s_done ?_
        go_wp2_with fail
        go_ret
        exact ⟨by rw [eqP_neg HH.out.1 HH.out.2.1 hp]; rfl, below_next hb.out.1 (Nat.le_refl _) HD.out⟩
      | true =>
        refine ⟨HS2.out, ?_⟩
        refine Rg.s_norm (a' := ?_) ?_ ?_; rotate_left; (simp only [Act.put, List.setIfInBounds_toArray, List.set_cons_zero, List.set_cons_succ]; rfl)
        refine Rg.p 59 ?_ ?_ rfl rfl (fun _ _ _ h => h) (by rfl) ?_ ?_ ?_; rotate_left 2; (intro w'; go_simp; with_reducible rfl); (simp only [Rg.pq, Rg.pz, Rg.ps]; rfl)
        refine Rg.s_done ?_
        go_wp2_with fail
        go_roundw
        case rel =>
          refine ⟨k + 1, by omega, by go_num, Lib.hid (fun j u v hj hu hv => ?_), Lib.hid ⟨below_next hb.out.1 (Nat.le_refl _) HD.out, HS2.out.1, HS2.out.2.1⟩⟩
          rcases Nat.lt_or_ge j k with h | h
          · exact hst.out j u v h hu hv
          · obtain rfl : j = k := by omega
            have h1 := HH.out.1
            have h2 := HH.out.2.1
            rw [hu] at h1
            rw [hv] at h2
            cases h1
            cases h2
            exact hp
        case measure => simp [intOf]; omega
    · go_wp2_with fail
      go_ret
      exact ⟨by rw [eqP_pos _ _ HM.out (fun j u v h h2 => hst.out j u v (by have := (List.getElem?_eq_some_iff.1 h).1; omega) h h2)]; rfl, hb.out.1⟩
theorem rsameExpr_calls {x : S40} (hO : OkE x) : ∀ (y : S40) (A4 : Option Addr) (c4 : Nat) (B4 : Option Addr) (d4 : Nat) (w : World), Kd.C k40 w A4 x.f4.length x.f4 → x.f4.length ≤ c4 → Kd.C k40 w B4 y.f4.length y.f4 → y.f4.length ≤ d4 →
    Calls Tryd.prog 60 #[exV A4 c4 x, exV B4 d4 y] w fun e w' => e = .returned (.bool (eqP x y)) ∧ Below w.heap.size w w' := by
  induction hO with
  | mk h0 h1 h3 h4 hk ih =>
    rename_i x
    intro y A4 c4 B4 d4 w hC hc hD hd
    have IH : ∀ a ∈ x.f4, ∀ b ∈ y.f4, ∀ (w : World), TestEE w 60 eqP a b := fun a ha b hb w w1 A5 c5 B5 d5 _ g1 g2 g3 g4 => ih a ha b A5 c5 B5 d5 w1 g1 g2 g3 g4
    cases q0 : (x.f0 != y.f0) with
    | true =>
      rw [eqP_false (show x ≠ y from fun e => by rw [e] at q0; simp at q0)]
      exact rsameE_no0 x y A4 c4 B4 d4 w hC hc hD hd q0
    | false =>
    cases q1 : (x.f1 != y.f1) with
    | true =>
      rw [eqP_false (show x ≠ y from fun e => by rw [e] at q1; simp at q1)]
      exact rsameE_no1 x y A4 c4 B4 d4 w hC hc hD hd q0 q1
    | false =>
    cases q2 : (x.f2 != y.f2) with
    | true =>
      rw [eqP_false (show x ≠ y from fun e => by rw [e] at q2; simp at q2)]
      exact rsameE_no2 x y A4 c4 B4 d4 w hC hc hD hd q0 q1 q2
    | false =>
    cases q3 : (x.f3.toList == y.f3.toList) with
    | false =>
      rw [eqP_false (show x ≠ y from fun e => by rw [e] at q3; simp at q3)]
      exact rsameE_no3 x y A4 c4 B4 d4 w hC hc hD hd q0 q1 q2 q3
    | true =>
    cases q4 : ((x.f4.length : Int) != (y.f4.length : Int)) with
    | true =>
      rw [eqP_false (show x ≠ y from fun e => by rw [e] at q4; simp at q4)]
      exact rsameE_no4 x y A4 c4 B4 d4 w hC hc hD hd q0 q1 q2 q3 q4
    | false =>
      have e0 : x.f0 = y.f0 := by simpa using q0
      have e1 : x.f1 = y.f1 := by simpa using q1
      have e2 : x.f2 = y.f2 := by simpa using q2
      have e3 : x.f3 = y.f3 := (str_eq _ _).1 (by simpa using q3)
      have e4 : x.f4.length = y.f4.length := by have : (x.f4.length : Int) = y.f4.length := by simpa using q4
                                                omega
      have : eqP x y = eqP x.f4 y.f4 := by
        by_cases h : x.f4 = y.f4
        · rw [eqP_true.2 h, eqP_true.2 (exprEq e0 e1 e2 e3 h)]
        · rw [eqP_false h, eqP_false (show x ≠ y from fun e => h (by rw [e]))]
      rw [this]
      exact rsameE_yes x y A4 c4 B4 d4 w hC hc hD hd e4 h4 IH q0 q1 q2 q3 q4
end Go.Proofs.YtlhnfgnihakcfaaDoor.Ax
set_option linter.unusedSimpArgs false
set_option linter.unusedVariables false
/- privityref27.SameStmts. -/
namespace Go.Proofs.YtlhnfgnihakcfaaDoor.Ax
open Go.RowKit Hp Kn
open Go.Proofs.YtlhnfgnihakcfaaDoorW.PrintWords Go.Proofs.YtlhnfgnihakcfaaDoorW.PrintLast Go.Proofs.YtlhnfgnihakcfaaDoorW.PrintMore
def SAt (p : Addr) (x : S64) (A2 : Option Addr) (c2 : Nat) (A3 : Option Addr) (c3 : Nat) (A4 : Option Addr) (c4 : Nat) (W : World) : Prop :=
  W.cell? p = some (.int .i64 x.f0) ∧ W.cell? ⟨p.block, p.off + 1, none⟩ = some (.string x.f1) ∧ W.cell? ⟨p.block, p.off + 2, none⟩ = some (.slice A2 x.f2.length c2) ∧ W.cell? ⟨p.block, p.off + 3, none⟩ = some (.slice A3 x.f3.length c3) ∧ W.cell? ⟨p.block, p.off + 4, none⟩ = some (.slice A4 x.f4.length c4)
theorem SAt.below {p : Addr} {x : S64} {A2 : Option Addr} {c2 : Nat} {A3 : Option Addr} {c3 : Nat} {A4 : Option Addr} {c4 : Nat} {W W2 : World} (h : SAt p x A2 c2 A3 c3 A4 c4 W) (hb : Below W.heap.size W W2) : SAt p x A2 c2 A3 c3 A4 c4 W2 := by
  obtain ⟨s0, s1, s2, s3, s4⟩ := h
  have k : ∀ (a : Addr) v, W.cell? a = some v → W2.cell? a = some v := fun a v h => (hb.cell (World.block_lt_of_cell? W _ h)).trans h
  exact ⟨k _ _ s0, k _ _ s1, k _ _ s2, k _ _ s3, k _ _ s4⟩
/-- what a statement's lists hold -/
def SHold (x : S64) (A2 : Option Addr) (c2 : Nat) (A3 : Option Addr) (c3 : Nat) (A4 : Option Addr) (c4 : Nat) (W : World) : Prop :=
  x.f2.length ≤ c2 ∧ Kd.C k40 W A2 x.f2.length x.f2 ∧ x.f3.length ≤ c3 ∧ Kd.C k64 W A3 x.f3.length x.f3 ∧ x.f4.length ≤ c4 ∧ Kd.C k64 W A4 x.f4.length x.f4
theorem SHold.below {x : S64} {A2 : Option Addr} {c2 : Nat} {A3 : Option Addr} {c3 : Nat} {A4 : Option Addr} {c4 : Nat} {W W2 : World} (h : SHold x A2 c2 A3 c3 A4 c4 W) (hb : Below W.heap.size W W2) : SHold x A2 c2 A3 c3 A4 c4 W2 :=
  ⟨h.1, Kd.C_below h.2.1 hb, h.2.2.1, Kd.C_below h.2.2.2.1 hb, h.2.2.2.2.1, Kd.C_below h.2.2.2.2.2 hb⟩
theorem stm_at {w : World} {ad : Addr} {xs : List S64} {y : S64} (hC : Kd.C k64 w (some ad) xs.length xs) (i : Nat) (hy : xs[i]? = some y) :
    ∃ A2 c2 A3 c3 A4 c4, SAt (ad.add (i * 5)) y A2 c2 A3 c3 A4 c4 w ∧ SHold y A2 c2 A3 c3 A4 c4 w := by
  have hl := (List.getElem?_eq_some_iff.1 hy).1
  obtain ⟨ad2, A2, c2, A3, c3, A4, c4, e, h0, h1, h2, h3, h4, l2, g2, l3, g3, l4, g4⟩ := at_T64 hC (i : Int) (by omega) (by omega)
  cases e
  have hrd : rd_T64 xs (i : Int) = y := by simp [rd_T64, List.getD_eq_getElem?_getD, hy]
  rw [hrd] at h0 h1 h2 h3 h4 l2 g2 l3 g3 l4 g4
  exact ⟨A2, c2, A3, c3, A4, c4, ⟨h0, h1, h2, h3, h4⟩, l2, g2, l3, g3, l4, g4⟩
theorem some_addrS {w : World} {A : Option Addr} {xs : List S64} (hC : Kd.C k64 w A xs.length xs) (h : 0 < xs.length) : ∃ ad, A = some ad := by
  obtain ⟨ad2, _, _, _, _, _, _, e, _⟩ := at_T64 hC 0 (by omega) (by omega)
  exact ⟨ad2, e⟩
def RS (l : List S64) : Prop := ∀ (m : List S64) (A : Option Addr) (c : Nat) (B : Option Addr) (d : Nat) (w : World), Kd.C k64 w A l.length l → l.length ≤ c → Kd.C k64 w B m.length m → m.length ≤ d →
  Calls Tryd.prog 36 #[.slice A l.length c, .slice B m.length d] w fun e w' => e = .returned (.bool (eqP l m)) ∧ Below w.heap.size w w'
theorem S5.up {g : Nat} {x : S64} {A2 : Option Addr} {c2 : Nat} {A3 : Option Addr} {c3 : Nat} {A4 : Option Addr} {c4 : Nat} {W W2 : World} (h : S5 g x A2 c2 A3 c3 A4 c4 W) (hb : Below W.heap.size W W2) : S5 g x A2 c2 A3 c3 A4 c4 W2 := by
  obtain ⟨s0, s1, s2, s3, s4⟩ := h
  have k : ∀ (a : Addr) v, W.cell? a = some v → W2.cell? a = some v := fun a v h => (hb.cell (World.block_lt_of_cell? W _ h)).trans h
  exact ⟨k _ _ s0, k _ _ s1, k _ _ s2, k _ _ s3, k _ _ s4⟩
theorem two_new (w : World) (x y : S64) (A2 : Option Addr) (c2 : Nat) (A3 : Option Addr) (c3 : Nat) (A4 : Option Addr) (c4 : Nat) (B2 : Option Addr) (d2 : Nat) (B3 : Option Addr) (d3 : Nat) (B4 : Option Addr) (d4 : Nat) :
    S5 w.heap.size x A2 c2 A3 c3 A4 c4 ((w.alloc (.cells #[.int .i64 x.f0, .string x.f1, .slice A2 x.f2.length c2, .slice A3 x.f3.length c3, .slice A4 x.f4.length c4] 64)).alloc (.cells #[.int .i64 y.f0, .string y.f1, .slice B2 y.f2.length d2, .slice B3 y.f3.length d3, .slice B4 y.f4.length d4] 64)).drew ∧ S5 (w.heap.size + 1) y B2 d2 B3 d3 B4 d4 ((w.alloc (.cells #[.int .i64 x.f0, .string x.f1, .slice A2 x.f2.length c2, .slice A3 x.f3.length c3, .slice A4 x.f4.length c4] 64)).alloc (.cells #[.int .i64 y.f0, .string y.f1, .slice B2 y.f2.length d2, .slice B3 y.f3.length d3, .slice B4 y.f4.length d4] 64)).drew :=
  ⟨SBox.cells (Blk.drew (Blk.alloc (Blk.alloc_new w [.int .i64 x.f0, .string x.f1, .slice A2 x.f2.length c2, .slice A3 x.f3.length c3, .slice A4 x.f4.length c4] 64) (.cells #[.int .i64 y.f0, .string y.f1, .slice B2 y.f2.length d2, .slice B3 y.f3.length d3, .slice B4 y.f4.length d4] 64))), SBox.cells (Blk.drew (second_new w (.cells #[.int .i64 x.f0, .string x.f1, .slice A2 x.f2.length c2, .slice A3 x.f3.length c3, .slice A4 x.f4.length c4] 64) [.int .i64 y.f0, .string y.f1, .slice B2 y.f2.length d2, .slice B3 y.f3.length d3, .slice B4 y.f4.length d4] 64))⟩
theorem below_two (w : World) (o1 o2 : Obj) : Below w.heap.size w ((w.alloc o1).alloc o2).drew :=
  (((Below.refl w.heap.size w).alloc (Nat.le_refl _) o1).alloc (by simp) o2).drew
theorem stm_ne2 {x y : S64} (h : eqP x.f3 y.f3 = false) : eqP x y = false := eqP_false fun e => by rw [e, eqP_true.2 rfl] at h; cases h
theorem stm_ne3 {x y : S64} (h : eqP x.f4 y.f4 = false) : eqP x y = false := eqP_false fun e => by rw [e, eqP_true.2 rfl] at h; cases h
theorem stm_ne1 {x y : S64} (h : eqP x.f2 y.f2 = false) : eqP x y = false := eqP_false fun e => by rw [e, eqP_true.2 rfl] at h; cases h
set_option maxRecDepth 100000 in
set_option maxHeartbeats 4000000 in
theorem rsames_step (l : List S64) (hO : ∀ x ∈ l, OkS x) (hlen : l.length ≤ 140737488351232) (IH : ∀ x ∈ l, RS x.f3 ∧ RS x.f4) : RS l := by
  intro m A c B d w hC hc hD hd
  have HB := Lib.hid (Below.refl w.heap.size w)
  by_cases hlm : l.length = m.length
  case neg =>
    have hn : ((l.length : Int) != (m.length : Int)) = true := by simp; omega
    rw [eqP_false (show l ≠ m from fun e => hlm (by rw [e]))]
    clear hO IH hC hD hlm
    go_enter Tryd.func36, Tryd.ntmps36
    go_wp2_with fail
    go_ret
    exact ⟨rfl, HB.out⟩
  have hn : ((l.length : Int) != (m.length : Int)) = false := by simp; omega
  have HC := Lib.hid (And.intro hC hD)
  have HM := Lib.hid hlm
  have HI := Lib.hid IH
  have HO := Lib.hid hO
  clear hC hD hlm IH hO
  go_enter Tryd.func36, Tryd.ntmps36
  go_wp2
  clear hn
  go_loopw [5] (fun i wr => ∃ k : Nat, k ≤ l.length ∧ i = .int .i64 k ∧ Hid (∀ (j : Nat) x y, j < k → l[j]? = some x → m[j]? = some y → eqP x y = true) ∧ Hid (Below w.heap.size w wr)) (fun i _ => l.length - (intOf i).toNat)
  case atStart => exact ⟨0, by omega, rfl, Lib.hid (fun j x y h => absurd h (by omega)), HB⟩
  case round =>
    obtain ⟨k, hk, rfl, hst, hb⟩ := hrel
    by_cases hlt : k < l.length
    · have hlt2 : k < m.length := by have := HM.out; omega
      have hi1 : (k : Int) < (l.length : Int) := by omega
      have hi2 : (k : Int) < (m.length : Int) := by omega
      obtain ⟨ad, rfl⟩ := some_addrS HC.out.1 (by omega)
      obtain ⟨bd, rfl⟩ := some_addrS HC.out.2 (by omega)
      obtain ⟨x, hx⟩ : ∃ x, l[k]? = some x := ⟨_, List.getElem?_eq_getElem hlt⟩
      obtain ⟨y, hy⟩ : ∃ y, m[k]? = some y := ⟨_, List.getElem?_eq_getElem hlt2⟩
      obtain ⟨A2, c2, A3, c3, A4, c4, xE, xH⟩ := stm_at (Kd.C_below HC.out.1 hb.out) k hx
      obtain ⟨B2, d2, B3, d3, B4, d4, yE, yH⟩ := stm_at (Kd.C_below HC.out.2 hb.out) k hy
      have HH := Lib.hid (And.intro hx (And.intro hy (And.intro xH yH)))
      have HOx := Lib.hid (HO.out x (List.mem_of_getElem? hx))
      have HIx := Lib.hid (HI.out x (List.mem_of_getElem? hx))
      have HRD := Lib.hid (show ∀ W, Below wr.heap.size wr W → SAt (ad.add (k * 5)) x A2 c2 A3 c3 A4 c4 W ∧ SAt (bd.add (k * 5)) y B2 d2 B3 d3 B4 d4 W from fun W hW => ⟨xE.below hW, yE.below hW⟩)
      have hz : ∀ W : World, (zeroValue 64).run Tryd.prog W = .ok (.agg #[.int .i64 0, .string ⟨#[]⟩, .slice none 0 0, .slice none 0 0, .slice none 0 0]) W := fun _ => by kernel_rfl
      have hxl : x.f2.length ≤ 140737488351232 := by cases HOx.out; assumption
      clear hx hy xH yH xE yE
      have hbr := (Below.refl wr.heap.size wr).drew
      go_wp2_with fail
      refine Rg.region_steps (S := Below wr.heap.size wr) [.any 0, .any 1, .any 2, .take 3, .any 4, .any 5, .any 6, .take 7, .two 8 9, .one 10, .one 11] (by kernel_rfl) (by kernel_rfl) hbr ?_
      refine Rg.p 20 ?_ ?_ rfl rfl (fun _ _ _ h => h) (by rfl) ?_ ?_ ?_; rotate_left 2; (intro w'; go_simp; with_reducible rfl); (simp only [Rg.pq, Rg.pz, Rg.ps]; rfl)
      refine Rg.p 21 ?_ ?_ rfl rfl (fun _ _ _ h => h) (by rfl) ?_ ?_ ?_; rotate_left 2; (intro w'; go_simp; with_reducible rfl); (simp only [Rg.pq, Rg.pz, Rg.ps]; rfl)
      refine Rg.p 22 ?_ ?_ rfl rfl (fun _ _ _ h => h) (by rfl) ?_ ?_ ?_; rotate_left 2; (intro w'; go_simp; with_reducible rfl); (simp only [Rg.pq, Rg.pz, Rg.ps]; rfl)
      refine Rg.t 23 ?_ ?_ rfl rfl (fun _ _ _ h => h) (by assumption) (by rfl) ?_ ?_ ?_; rotate_left 2; (rintro w' hS; obtain ⟨⟨s0,s1,s2,s3,s4⟩,⟨t0,t1,t2,t3,t4⟩⟩ := HRD.out _ hS; go_simp; with_reducible rfl); (simp only [Rg.pq, Rg.pz, Rg.ps]; rfl)
      refine Rg.p 24 ?_ ?_ rfl rfl (fun _ _ _ h => h) (by rfl) ?_ ?_ ?_; rotate_left 2; (intro w'; go_simp; with_reducible rfl); (simp only [Rg.pq, Rg.pz, Rg.ps]; rfl)
      refine Rg.p 25 ?_ ?_ rfl rfl (fun _ _ _ h => h) (by rfl) ?_ ?_ ?_; rotate_left 2; (intro w'; go_simp; with_reducible rfl); (simp only [Rg.pq, Rg.pz, Rg.ps]; rfl)
      refine Rg.p 26 ?_ ?_ rfl rfl (fun _ _ _ h => h) (by rfl) ?_ ?_ ?_; rotate_left 2; (intro w'; go_simp; with_reducible rfl); (simp only [Rg.pq, Rg.pz, Rg.ps]; rfl)
      refine Rg.t 27 ?_ ?_ rfl rfl (fun _ _ _ h => h) (by assumption) (by rfl) ?_ ?_ ?_; rotate_left 2; (rintro w' hS; obtain ⟨⟨s0,s1,s2,s3,s4⟩,⟨t0,t1,t2,t3,t4⟩⟩ := HRD.out _ hS; go_simp; with_reducible rfl); (simp only [Rg.pq, Rg.pz, Rg.ps]; rfl)
      clear HRD
      refine Rg.s_two ?_ ?_
      refine Rg.one_value (N := some 6) (a' := ?_) rfl rfl (by rfl) (by go_simp; exact ⟨rfl, rfl⟩) (by repeat (first | exact Below.refl _ _ | apply Below.drew | refine Below.alloc ?_ (by simp) _ | refine Below.setCell ?_ (by simp) _)) ?_ ?_; rotate_left; (simp only [Act.put, List.setIfInBounds_toArray, List.set_cons_zero, List.set_cons_succ]; rfl)
      refine Rg.one_value (N := some 7) (a' := ?_) rfl rfl (by rfl) (by go_simp; exact ⟨rfl, rfl⟩) (by repeat (first | exact Below.refl _ _ | apply Below.drew | refine Below.alloc ?_ (by simp) _ | refine Below.setCell ?_ (by simp) _)) ?_ ?_; rotate_left; (simp only [Act.put, List.setIfInBounds_toArray, List.set_cons_zero, List.set_cons_succ]; rfl)
      rotate_left
      refine Rg.one_value (N := some 7) (a' := ?_) rfl rfl (by rfl) (by go_simp; exact ⟨rfl, rfl⟩) (by repeat (first | exact Below.refl _ _ | apply Below.drew | refine Below.alloc ?_ (by simp) _ | refine Below.setCell ?_ (by simp) _)) ?_ ?_; rotate_left; (simp only [Act.put, List.setIfInBounds_toArray, List.set_cons_zero, List.set_cons_succ]; rfl)
      refine Rg.one_value (N := some 6) (a' := ?_) rfl rfl (by rfl) (by go_simp; exact ⟨rfl, rfl⟩) (by repeat (first | exact Below.refl _ _ | apply Below.drew | refine Below.alloc ?_ (by simp) _ | refine Below.setCell ?_ (by simp) _)) ?_ ?_; rotate_left; (simp only [Act.put, List.setIfInBounds_toArray, List.set_cons_zero, List.set_cons_succ]; rfl)
      all_goals
        clear hz hbr
        refine Rg.s_skip rfl rfl (by rfl) (by go_simp; rfl) (by repeat (first | exact Below.refl _ _ | apply Below.drew | refine Below.alloc ?_ (by simp) _ | refine Below.setCell ?_ (by simp) _)) ?_
        refine Rg.s_skip rfl rfl (by rfl) (by go_simp; rfl) (by repeat (first | exact Below.refl _ _ | apply Below.drew | refine Below.alloc ?_ (by simp) _ | refine Below.setCell ?_ (by simp) _)) ?_
        refine Rg.s_done ?_
      · have HS := Lib.hid (two_new wr y x B2 d2 B3 d3 B4 d4 A2 c2 A3 c3 A4 c4).symm
        have HW := Lib.hid (below_two wr (.cells #[.int .i64 y.f0, .string y.f1, .slice B2 y.f2.length d2, .slice B3 y.f3.length d3, .slice B4 y.f4.length d4] 64) (.cells #[.int .i64 x.f0, .string x.f1, .slice A2 x.f2.length c2, .slice A3 x.f3.length c3, .slice A4 x.f4.length c4] 64))
        generalize ((wr.alloc (.cells #[.int .i64 y.f0, .string y.f1, .slice B2 y.f2.length d2, .slice B3 y.f3.length d3, .slice B4 y.f4.length d4] 64)).alloc (.cells #[.int .i64 x.f0, .string x.f1, .slice A2 x.f2.length c2, .slice A3 x.f3.length c3, .slice A4 x.f4.length c4] 64)).drew = W at HS HW ⊢
        generalize wr.heap.size + 1 = gx at HS ⊢
        generalize wr.heap.size = gy at HS ⊢
        obtain ⟨x0, x1, x2, x3, x4⟩ := HS.out.1
        obtain ⟨y0, y1, y2, y3, y4⟩ := HS.out.2
        cases q0 : (x.f0 != y.f0) with
        | true =>
          go_wp2_with fail
          go_ret
          exact ⟨by rw [eqP_neg HH.out.1 HH.out.2.1 (eqP_false fun e => by rw [e] at q0; simp at q0)]; rfl, below_next hb.out (Nat.le_refl _) HW.out⟩
        | false =>
        cases q1 : (x.f1.toList == y.f1.toList) with
        | false =>
          go_wp2_with fail
          go_ret
          exact ⟨by rw [eqP_neg HH.out.1 HH.out.2.1 (eqP_false fun e => by rw [e] at q1; simp at q1)]; rfl, below_next hb.out (Nat.le_refl _) HW.out⟩
        | true =>
        cases q2 : ((x.f2.length : Int) != (y.f2.length : Int)) with
        | true =>
          go_wp2_with fail
          go_ret
          exact ⟨by rw [eqP_neg HH.out.1 HH.out.2.1 (eqP_false fun e => by rw [e] at q2; simp at q2)]; rfl, below_next hb.out (Nat.le_refl _) HW.out⟩
        | false =>
        have hl2 : x.f2.length = y.f2.length := by have : (x.f2.length : Int) = y.f2.length := by simpa using q2
                                                   omega
        have HE := Lib.hid (show x.f0 = y.f0 ∧ x.f1 = y.f1 ∧ x.f2.length = y.f2.length from ⟨by simpa using q0, (str_eq _ _).1 q1, hl2⟩)
        clear hl2
        go_wp2_with fail
        clear q0 q1 q2 x0 x1 x2 x3 x4 y0 y1 y2 y3 y4
        go_loopw [8] (fun i w2 => ∃ k2 : Nat, k2 ≤ x.f2.length ∧ i = .int .i64 k2 ∧ Hid (∀ (j : Nat) a b, j < k2 → x.f2[j]? = some a → y.f2[j]? = some b → eqP a b = true) ∧ Hid (Below wr.heap.size wr w2 ∧ S5 gx x A2 c2 A3 c3 A4 c4 w2 ∧ S5 gy y B2 d2 B3 d3 B4 d4 w2)) (fun i _ => x.f2.length - (intOf i).toNat)
        case atStart => exact ⟨0, by omega, rfl, Lib.hid (fun j a b h => absurd h (by omega)), Lib.hid ⟨HW.out, HS.out.1, HS.out.2⟩⟩
        case round =>
          clear HS HW
          obtain ⟨k2, hk2, rfl, hst2, hb2⟩ := hrel
          obtain ⟨x0, x1, x2, x3, x4⟩ := hb2.out.2.1
          obtain ⟨y0, y1, y2, y3, y4⟩ := hb2.out.2.2
          by_cases hlt3 : k2 < x.f2.length
          · have hlt4 : k2 < y.f2.length := by have := HE.out.2.2; omega
            have hi3 : (k2 : Int) < (x.f2.length : Int) := by omega
            have hi4 : (k2 : Int) < (y.f2.length : Int) := by omega
            obtain ⟨ae, rfl⟩ := some_addr HH.out.2.2.1.2.1 (by omega)
            obtain ⟨be, rfl⟩ := some_addr HH.out.2.2.2.2.1 (by omega)
            obtain ⟨a, ha⟩ : ∃ a, x.f2[k2]? = some a := ⟨_, List.getElem?_eq_getElem hlt3⟩
            obtain ⟨b, hbb⟩ : ∃ b, y.f2[k2]? = some b := ⟨_, List.getElem?_eq_getElem hlt4⟩
            obtain ⟨aA, ac, aE, al, aC⟩ := kid_at (Kd.C_below HH.out.2.2.1.2.1 hb2.out.1) k2 ha
            obtain ⟨bA, bc, bE, bl, bC⟩ := kid_at (Kd.C_below HH.out.2.2.2.2.1 hb2.out.1) k2 hbb
            have HK := Lib.hid (And.intro ha (And.intro hbb (And.intro al (And.intro aC (And.intro bl bC)))))
            have HX := Lib.hid (show OkE a by have := HOx.out; cases this with | mk _ _ _ _ k2' _ _ => exact k2' a (List.mem_of_getElem? ha))
            have HS1 := Lib.hid (show (fun W => S5 gx x (some ae) c2 A3 c3 A4 c4 W ∧ S5 gy y (some be) d2 B3 d3 B4 d4 W ∧ ECells (ae.add (k2 * 5)) a aA ac W ∧ ECells (be.add (k2 * 5)) b bA bc W) wr from ⟨hb2.out.2.1, hb2.out.2.2, aE, bE⟩)
            clear ha hbb al aC bl bC aE bE
            go_wp2_with fail
            clear x0 x1 x2 x3 x4 y0 y1 y2 y3 y4
            have hS : (fun W => S5 gx x (some ae) c2 A3 c3 A4 c4 W ∧ S5 gy y (some be) d2 B3 d3 B4 d4 W ∧ ECells (ae.add (k2 * 5)) a aA ac W ∧ ECells (be.add (k2 * 5)) b bA bc W) wr.drew := HS1.out
            refine Rg.region_steps (S := (fun W => S5 gx x (some ae) c2 A3 c3 A4 c4 W ∧ S5 gy y (some be) d2 B3 d3 B4 d4 W ∧ ECells (ae.add (k2 * 5)) a aA ac W ∧ ECells (be.add (k2 * 5)) b bA bc W)) [.any 0, .take 1, .any 2, .any 3, .take 4, .any 5, .take 6, .any 7, .any 8, .take 9, .one 10, .any 11] (by kernel_rfl) (by kernel_rfl) hS ?_
            refine Rg.p 56 ?_ ?_ rfl rfl (fun _ _ _ h => h) (by rfl) ?_ ?_ ?_; rotate_left 2; (intro w'; go_simp; with_reducible rfl); (simp only [Rg.pq, Rg.pz, Rg.ps]; rfl)
            refine Rg.t 57 ?_ ?_ rfl rfl (fun _ _ _ h => h) (by assumption) (by rfl) ?_ ?_ ?_; rotate_left 2; (rintro w' ⟨⟨x0, x1, x2, x3, x4⟩, ⟨y0, y1, y2, y3, y4⟩, ⟨a0, a1, a2, a3, a4⟩, ⟨b0, b1, b2, b3, b4⟩⟩; go_simp; with_reducible rfl); (simp only [Rg.pq, Rg.pz, Rg.ps]; rfl)
            refine Rg.p 58 ?_ ?_ rfl rfl (fun _ _ _ h => h) (by rfl) ?_ ?_ ?_; rotate_left 2; (intro w'; go_simp; with_reducible rfl); (simp only [Rg.pq, Rg.pz, Rg.ps]; rfl)
            refine Rg.p 59 ?_ ?_ rfl rfl (fun _ _ _ h => h) (by rfl) ?_ ?_ ?_; rotate_left 2; (intro w'; go_simp; with_reducible rfl); (simp only [Rg.pq, Rg.pz, Rg.ps]; rfl)
            refine Rg.t 60 ?_ ?_ rfl rfl (fun _ _ _ h => h) (by assumption) (by rfl) ?_ ?_ ?_; rotate_left 2; (rintro w' ⟨⟨x0, x1, x2, x3, x4⟩, ⟨y0, y1, y2, y3, y4⟩, ⟨a0, a1, a2, a3, a4⟩, ⟨b0, b1, b2, b3, b4⟩⟩; go_simp; with_reducible rfl); (simp only [Rg.pq, Rg.pz, Rg.ps]; rfl)
            refine Rg.p 61 ?_ ?_ rfl rfl (fun _ _ _ h => h) (by rfl) ?_ ?_ ?_; rotate_left 2; (intro w'; go_simp; with_reducible rfl); (simp only [Rg.pq, Rg.pz, Rg.ps]; rfl)
            refine Rg.t 62 ?_ ?_ rfl rfl (fun _ _ _ h => h) (by assumption) (by rfl) ?_ ?_ ?_; rotate_left 2; (rintro w' ⟨⟨x0, x1, x2, x3, x4⟩, ⟨y0, y1, y2, y3, y4⟩, ⟨a0, a1, a2, a3, a4⟩, ⟨b0, b1, b2, b3, b4⟩⟩; go_simp; with_reducible rfl); (simp only [Rg.pq, Rg.pz, Rg.ps]; rfl)
            refine Rg.p 63 ?_ ?_ rfl rfl (fun _ _ _ h => h) (by rfl) ?_ ?_ ?_; rotate_left 2; (intro w'; go_simp; with_reducible rfl); (simp only [Rg.pq, Rg.pz, Rg.ps]; rfl)
            refine Rg.p 64 ?_ ?_ rfl rfl (fun _ _ _ h => h) (by rfl) ?_ ?_ ?_; rotate_left 2; (intro w'; go_simp; with_reducible rfl); (simp only [Rg.pq, Rg.pz, Rg.ps]; rfl)
            refine Rg.t 65 ?_ ?_ rfl rfl (fun _ _ _ h => h) (by assumption) (by rfl) ?_ ?_ ?_; rotate_left 2; (rintro w' ⟨⟨x0, x1, x2, x3, x4⟩, ⟨y0, y1, y2, y3, y4⟩, ⟨a0, a1, a2, a3, a4⟩, ⟨b0, b1, b2, b3, b4⟩⟩; go_simp; with_reducible rfl); (simp only [Rg.pq, Rg.pz, Rg.ps]; rfl)
            have HS1 := Lib.hid hS
            have HDr := Lib.hid (Below.refl wr.heap.size wr).drew
            refine Rg.s_call (N := some 66) rfl rfl Tryd.func60 (by kernel_rfl) rfl #[.agg #[.int .i64 a.f0, .int .i64 a.f1, .int .u64 a.f2, .string a.f3, .slice aA a.f4.length ac], .agg #[.int .i64 b.f0, .int .i64 b.f1, .int .u64 b.f2, .string b.f3, .slice bA b.f4.length bc]] (by rfl) rfl (by (try simp only [List.map_toArray, List.map_cons, List.map_nil]); first | done | rfl) ?_
            refine (rsameExpr_calls HX.out b aA ac bA bc wr.drew (Kd.C_below HK.out.2.2.2.1 HDr.out) HK.out.2.2.1 (Kd.C_below HK.out.2.2.2.2.2 HDr.out) HK.out.2.2.2.2.1).mono ?_
            rintro e w3 ⟨rfl, hc⟩
            have HD := Lib.hid (below_next hb2.out.1 (Nat.le_refl _) (below_next HDr.out (Nat.le_refl _) hc))
            have HS2 := Lib.hid (show (fun W => S5 gx x (some ae) c2 A3 c3 A4 c4 W ∧ S5 gy y (some be) d2 B3 d3 B4 d4 W ∧ ECells (ae.add (k2 * 5)) a aA ac W ∧ ECells (be.add (k2 * 5)) b bA bc W) w3 from ⟨HS1.out.1.up hc, HS1.out.2.1.up hc, HS1.out.2.2.1.below hc, HS1.out.2.2.2.below hc⟩)
            clear hc
            cases hp : eqP a b with
            | false =>
              refine ⟨HS2.out, ?_⟩
              refine Rg.s_norm (a' := ?_) ?_ ?_; rotate_left; (simp only [Act.put, List.setIfInBounds_toArray, List.set_cons_zero, List.set_cons_succ]; rfl)
              refine Rg.p 67 ?_ ?_ rfl rfl (fun _ _ _ h => h) (by rfl) ?_ ?_ ?_; rotate_left 2; (intro w'; go_simp; with_reducible rfl); (simp only [Rg.pq, Rg.pz, Rg.ps]; rfl)
              refine Rg.s_done ?_
              go_wp2_with fail
              go_ret
              exact ⟨by rw [eqP_neg HH.out.1 HH.out.2.1 (stm_ne1 (eqP_neg HK.out.1 HK.out.2.1 hp))]; rfl, below_next hb.out (Nat.le_refl _) HD.out⟩
            | true =>
              refine ⟨HS2.out, ?_⟩
              refine Rg.s_norm (a' := ?_) ?_ ?_; rotate_left; (simp only [Act.put, List.setIfInBounds_toArray, List.set_cons_zero, List.set_cons_succ]; rfl)
              refine Rg.p 67 ?_ ?_ rfl rfl (fun _ _ _ h => h) (by rfl) ?_ ?_ ?_; rotate_left 2; (intro w'; go_simp; with_reducible rfl); (simp only [Rg.pq, Rg.pz, Rg.ps]; rfl)
              refine Rg.s_done ?_
              go_wp2_with fail
              go_roundw
              case rel =>
                refine ⟨k2 + 1, by omega, by go_num, Lib.hid (fun j u v hj hu hv => ?_), Lib.hid ⟨HD.out, HS2.out.1, HS2.out.2.1⟩⟩
                rcases Nat.lt_or_ge j k2 with h | h
                · exact hst2.out j u v h hu hv
                · obtain rfl : j = k2 := by omega
                  have h1 := HK.out.1
                  have h2 := HK.out.2.1
                  rw [hu] at h1
                  rw [hv] at h2
                  cases h1
                  cases h2
                  exact hp
              case measure => simp [intOf]; omega
          · have e2 := Lib.hid (eqP_true.1 (eqP_pos x.f2 y.f2 HE.out.2.2 (fun j u v h h2 => hst2.out j u v (by have := (List.getElem?_eq_some_iff.1 h).1; omega) h h2)))
            clear hst2
            go_wp2_with fail
            refine (HIx.out.1 y.f3 A3 c3 B3 d3 wr (Kd.C_below HH.out.2.2.1.2.2.2.1 hb2.out.1) HH.out.2.2.1.2.2.1 (Kd.C_below HH.out.2.2.2.2.2.2.1 hb2.out.1) HH.out.2.2.2.2.2.1).mono ?_
            rintro e w3 ⟨rfl, hc⟩
            have HD := Lib.hid (below_next hb2.out.1 (Nat.le_refl _) hc)
            have HS2 := Lib.hid (And.intro (hb2.out.2.1.up hc) (hb2.out.2.2.up hc))
            clear hc x0 x1 x2 x3 x4 y0 y1 y2 y3 y4
            obtain ⟨x0, x1, x2, x3, x4⟩ := HS2.out.1
            obtain ⟨y0, y1, y2, y3, y4⟩ := HS2.out.2
            cases r3 : eqP x.f3 y.f3 with
            | false =>
              go_wp2_with fail
              go_ret
              exact ⟨by rw [eqP_neg HH.out.1 HH.out.2.1 (stm_ne2 r3)]; rfl, below_next hb.out (Nat.le_refl _) HD.out⟩
            | true =>
            have e3 := Lib.hid (eqP_true.1 r3)
            go_wp2_with fail
            refine (HIx.out.2 y.f4 A4 c4 B4 d4 w3 (Kd.C_below HH.out.2.2.1.2.2.2.2.2 HD.out) HH.out.2.2.1.2.2.2.2.1 (Kd.C_below HH.out.2.2.2.2.2.2.2.2 HD.out) HH.out.2.2.2.2.2.2.2.1).mono ?_
            rintro e w4 ⟨rfl, hc⟩
            have HD2 := Lib.hid (below_next HD.out (Nat.le_refl _) hc)
            clear hc x0 x1 x2 x3 x4 y0 y1 y2 y3 y4
            cases r4 : eqP x.f4 y.f4 with
            | false =>
              go_wp2_with fail
              go_ret
              exact ⟨by rw [eqP_neg HH.out.1 HH.out.2.1 (stm_ne3 r4)]; rfl, below_next hb.out (Nat.le_refl _) HD2.out⟩
            | true =>
            have e4 := Lib.hid (eqP_true.1 r4)
            have e5 := Lib.hid (eqP_true.2 (stmtEq HE.out.1 HE.out.2.1 e2.out e3.out e4.out))
            go_wp2_with fail
            go_roundw
            case rel =>
              refine ⟨k + 1, by omega, by go_num, Lib.hid (fun j u v hj hu hv => ?_), Lib.hid (below_next hb.out (Nat.le_refl _) HD2.out)⟩
              rcases Nat.lt_or_ge j k with h | h
              · exact hst.out j u v h hu hv
              · obtain rfl : j = k := by omega
                have h1 := HH.out.1
                have h2 := HH.out.2.1
                rw [hu] at h1
                rw [hv] at h2
                cases h1
                cases h2
                exact e5.out
            case measure => simp [intOf]; omega
      · have HS := Lib.hid (two_new wr x y A2 c2 A3 c3 A4 c4 B2 d2 B3 d3 B4 d4)
        have HW := Lib.hid (below_two wr (.cells #[.int .i64 x.f0, .string x.f1, .slice A2 x.f2.length c2, .slice A3 x.f3.length c3, .slice A4 x.f4.length c4] 64) (.cells #[.int .i64 y.f0, .string y.f1, .slice B2 y.f2.length d2, .slice B3 y.f3.length d3, .slice B4 y.f4.length d4] 64))
        generalize ((wr.alloc (.cells #[.int .i64 x.f0, .string x.f1, .slice A2 x.f2.length c2, .slice A3 x.f3.length c3, .slice A4 x.f4.length c4] 64)).alloc (.cells #[.int .i64 y.f0, .string y.f1, .slice B2 y.f2.length d2, .slice B3 y.f3.length d3, .slice B4 y.f4.length d4] 64)).drew = W at HS HW ⊢
        generalize wr.heap.size + 1 = gy at HS ⊢
        generalize wr.heap.size = gx at HS ⊢
        obtain ⟨x0, x1, x2, x3, x4⟩ := HS.out.1
        obtain ⟨y0, y1, y2, y3, y4⟩ := HS.out.2
        cases q0 : (x.f0 != y.f0) with
        | true =>
          go_wp2_with fail
          go_ret
          exact ⟨by rw [eqP_neg HH.out.1 HH.out.2.1 (eqP_false fun e => by rw [e] at q0; simp at q0)]; rfl, below_next hb.out (Nat.le_refl _) HW.out⟩
        | false =>
        cases q1 : (x.f1.toList == y.f1.toList) with
        | false =>
          go_wp2_with fail
          go_ret
          exact ⟨by rw [eqP_neg HH.out.1 HH.out.2.1 (eqP_false fun e => by rw [e] at q1; simp at q1)]; rfl, below_next hb.out (Nat.le_refl _) HW.out⟩
        | true =>
        cases q2 : ((x.f2.length : Int) != (y.f2.length : Int)) with
        | true =>
          go_wp2_with fail
          go_ret
          exact ⟨by rw [eqP_neg HH.out.1 HH.out.2.1 (eqP_false fun e => by rw [e] at q2; simp at q2)]; rfl, below_next hb.out (Nat.le_refl _) HW.out⟩
        | false =>
        have hl2 : x.f2.length = y.f2.length := by have : (x.f2.length : Int) = y.f2.length := by simpa using q2
                                                   omega
        have HE := Lib.hid (show x.f0 = y.f0 ∧ x.f1 = y.f1 ∧ x.f2.length = y.f2.length from ⟨by simpa using q0, (str_eq _ _).1 q1, hl2⟩)
        clear hl2
        go_wp2_with fail
        clear q0 q1 q2 x0 x1 x2 x3 x4 y0 y1 y2 y3 y4
        go_loopw [8] (fun i w2 => ∃ k2 : Nat, k2 ≤ x.f2.length ∧ i = .int .i64 k2 ∧ Hid (∀ (j : Nat) a b, j < k2 → x.f2[j]? = some a → y.f2[j]? = some b → eqP a b = true) ∧ Hid (Below wr.heap.size wr w2 ∧ S5 gx x A2 c2 A3 c3 A4 c4 w2 ∧ S5 gy y B2 d2 B3 d3 B4 d4 w2)) (fun i _ => x.f2.length - (intOf i).toNat)
        case atStart => exact ⟨0, by omega, rfl, Lib.hid (fun j a b h => absurd h (by omega)), Lib.hid ⟨HW.out, HS.out.1, HS.out.2⟩⟩
        case round =>
          clear HS HW
          obtain ⟨k2, hk2, rfl, hst2, hb2⟩ := hrel
          obtain ⟨x0, x1, x2, x3, x4⟩ := hb2.out.2.1
          obtain ⟨y0, y1, y2, y3, y4⟩ := hb2.out.2.2
          by_cases hlt3 : k2 < x.f2.length
          · have hlt4 : k2 < y.f2.length := by have := HE.out.2.2; omega
            have hi3 : (k2 : Int) < (x.f2.length : Int) := by omega
            have hi4 : (k2 : Int) < (y.f2.length : Int) := by omega
            obtain ⟨ae, rfl⟩ := some_addr HH.out.2.2.1.2.1 (by omega)
            obtain ⟨be, rfl⟩ := some_addr HH.out.2.2.2.2.1 (by omega)
            obtain ⟨a, ha⟩ : ∃ a, x.f2[k2]? = some a := ⟨_, List.getElem?_eq_getElem hlt3⟩
            obtain ⟨b, hbb⟩ : ∃ b, y.f2[k2]? = some b := ⟨_, List.getElem?_eq_getElem hlt4⟩
            obtain ⟨aA, ac, aE, al, aC⟩ := kid_at (Kd.C_below HH.out.2.2.1.2.1 hb2.out.1) k2 ha
            obtain ⟨bA, bc, bE, bl, bC⟩ := kid_at (Kd.C_below HH.out.2.2.2.2.1 hb2.out.1) k2 hbb
            have HK := Lib.hid (And.intro ha (And.intro hbb (And.intro al (And.intro aC (And.intro bl bC)))))
            have HX := Lib.hid (show OkE a by have := HOx.out; cases this with | mk _ _ _ _ k2' _ _ => exact k2' a (List.mem_of_getElem? ha))
            have HS1 := Lib.hid (show (fun W => S5 gx x (some ae) c2 A3 c3 A4 c4 W ∧ S5 gy y (some be) d2 B3 d3 B4 d4 W ∧ ECells (ae.add (k2 * 5)) a aA ac W ∧ ECells (be.add (k2 * 5)) b bA bc W) wr from ⟨hb2.out.2.1, hb2.out.2.2, aE, bE⟩)
            clear ha hbb al aC bl bC aE bE
            go_wp2_with fail
            clear x0 x1 x2 x3 x4 y0 y1 y2 y3 y4
            have hS : (fun W => S5 gx x (some ae) c2 A3 c3 A4 c4 W ∧ S5 gy y (some be) d2 B3 d3 B4 d4 W ∧ ECells (ae.add (k2 * 5)) a aA ac W ∧ ECells (be.add (k2 * 5)) b bA bc W) wr.drew := HS1.out
            refine Rg.region_steps (S := (fun W => S5 gx x (some ae) c2 A3 c3 A4 c4 W ∧ S5 gy y (some be) d2 B3 d3 B4 d4 W ∧ ECells (ae.add (k2 * 5)) a aA ac W ∧ ECells (be.add (k2 * 5)) b bA bc W)) [.any 0, .take 1, .any 2, .any 3, .take 4, .any 5, .take 6, .any 7, .any 8, .take 9, .one 10, .any 11] (by kernel_rfl) (by kernel_rfl) hS ?_
            refine Rg.p 56 ?_ ?_ rfl rfl (fun _ _ _ h => h) (by rfl) ?_ ?_ ?_; rotate_left 2; (intro w'; go_simp; with_reducible rfl); (simp only [Rg.pq, Rg.pz, Rg.ps]; rfl)
            refine Rg.t 57 ?_ ?_ rfl rfl (fun _ _ _ h => h) (by assumption) (by rfl) ?_ ?_ ?_; rotate_left 2; (rintro w' ⟨⟨x0, x1, x2, x3, x4⟩, ⟨y0, y1, y2, y3, y4⟩, ⟨a0, a1, a2, a3, a4⟩, ⟨b0, b1, b2, b3, b4⟩⟩; go_simp; with_reducible rfl); (simp only [Rg.pq, Rg.pz, Rg.ps]; rfl)
            refine Rg.p 58 ?_ ?_ rfl rfl (fun _ _ _ h => h) (by rfl) ?_ ?_ ?_; rotate_left 2; (intro w'; go_simp; with_reducible rfl); (simp only [Rg.pq, Rg.pz, Rg.ps]; rfl)
            refine Rg.p 59 ?_ ?_ rfl rfl (fun _ _ _ h => h) (by rfl) ?_ ?_ ?_; rotate_left 2; (intro w'; go_simp; with_reducible rfl); (simp only [Rg.pq, Rg.pz, Rg.ps]; rfl)
            refine Rg.t 60 ?_ ?_ rfl rfl (fun _ _ _ h => h) (by assumption) (by rfl) ?_ ?_ ?_; rotate_left 2; (rintro w' ⟨⟨x0, x1, x2, x3, x4⟩, ⟨y0, y1, y2, y3, y4⟩, ⟨a0, a1, a2, a3, a4⟩, ⟨b0, b1, b2, b3, b4⟩⟩; go_simp; with_reducible rfl); (simp only [Rg.pq, Rg.pz, Rg.ps]; rfl)
            refine Rg.p 61 ?_ ?_ rfl rfl (fun _ _ _ h => h) (by rfl) ?_ ?_ ?_; rotate_left 2; (intro w'; go_simp; with_reducible rfl); (simp only [Rg.pq, Rg.pz, Rg.ps]; rfl)
            refine Rg.t 62 ?_ ?_ rfl rfl (fun _ _ _ h => h) (by assumption) (by rfl) ?_ ?_ ?_; rotate_left 2; (rintro w' ⟨⟨x0, x1, x2, x3, x4⟩, ⟨y0, y1, y2, y3, y4⟩, ⟨a0, a1, a2, a3, a4⟩, ⟨b0, b1, b2, b3, b4⟩⟩; go_simp; with_reducible rfl); (simp only [Rg.pq, Rg.pz, Rg.ps]; rfl)
            refine Rg.p 63 ?_ ?_ rfl rfl (fun _ _ _ h => h) (by rfl) ?_ ?_ ?_; rotate_left 2; (intro w'; go_simp; with_reducible rfl); (simp only [Rg.pq, Rg.pz, Rg.ps]; rfl)
            refine Rg.p 64 ?_ ?_ rfl rfl (fun _ _ _ h => h) (by rfl) ?_ ?_ ?_; rotate_left 2; (intro w'; go_simp; with_reducible rfl); (simp only [Rg.pq, Rg.pz, Rg.ps]; rfl)
            refine Rg.t 65 ?_ ?_ rfl rfl (fun _ _ _ h => h) (by assumption) (by rfl) ?_ ?_ ?_; rotate_left 2; (rintro w' ⟨⟨x0, x1, x2, x3, x4⟩, ⟨y0, y1, y2, y3, y4⟩, ⟨a0, a1, a2, a3, a4⟩, ⟨b0, b1, b2, b3, b4⟩⟩; go_simp; with_reducible rfl); (simp only [Rg.pq, Rg.pz, Rg.ps]; rfl)
            have HS1 := Lib.hid hS
            have HDr := Lib.hid (Below.refl wr.heap.size wr).drew
            refine Rg.s_call (N := some 66) rfl rfl Tryd.func60 (by kernel_rfl) rfl #[.agg #[.int .i64 a.f0, .int .i64 a.f1, .int .u64 a.f2, .string a.f3, .slice aA a.f4.length ac], .agg #[.int .i64 b.f0, .int .i64 b.f1, .int .u64 b.f2, .string b.f3, .slice bA b.f4.length bc]] (by rfl) rfl (by (try simp only [List.map_toArray, List.map_cons, List.map_nil]); first | done | rfl) ?_
            refine (rsameExpr_calls HX.out b aA ac bA bc wr.drew (Kd.C_below HK.out.2.2.2.1 HDr.out) HK.out.2.2.1 (Kd.C_below HK.out.2.2.2.2.2 HDr.out) HK.out.2.2.2.2.1).mono ?_
            rintro e w3 ⟨rfl, hc⟩
            have HD := Lib.hid (below_next hb2.out.1 (Nat.le_refl _) (below_next HDr.out (Nat.le_refl _) hc))
            have HS2 := Lib.hid (show (fun W => S5 gx x (some ae) c2 A3 c3 A4 c4 W ∧ S5 gy y (some be) d2 B3 d3 B4 d4 W ∧ ECells (ae.add (k2 * 5)) a aA ac W ∧ ECells (be.add (k2 * 5)) b bA bc W) w3 from ⟨HS1.out.1.up hc, HS1.out.2.1.up hc, HS1.out.2.2.1.below hc, HS1.out.2.2.2.below hc⟩)
            clear hc
            cases hp : eqP a b with
            | false =>
              refine ⟨HS2.out, ?_⟩
              refine Rg.s_norm (a' := ?_) ?_ ?_; rotate_left; (simp only [Act.put, List.setIfInBounds_toArray, List.set_cons_zero, List.set_cons_succ]; rfl)
              refine Rg.p 67 ?_ ?_ rfl rfl (fun _ _ _ h => h) (by rfl) ?_ ?_ ?_; rotate_left 2; (intro w'; go_simp; with_reducible rfl); (simp only [Rg.pq, Rg.pz, Rg.ps]; rfl)
              refine Rg.s_done ?_
              go_wp2_with fail
              go_ret
              exact ⟨by rw [eqP_neg HH.out.1 HH.out.2.1 (stm_ne1 (eqP_neg HK.out.1 HK.out.2.1 hp))]; rfl, below_next hb.out (Nat.le_refl _) HD.out⟩
            | true =>
              refine ⟨HS2.out, ?_⟩
              refine Rg.s_norm (a' := ?_) ?_ ?_; rotate_left; (simp only [Act.put, List.setIfInBounds_toArray, List.set_cons_zero, List.set_cons_succ]; rfl)
              refine Rg.p 67 ?_ ?_ rfl rfl (fun _ _ _ h => h) (by rfl) ?_ ?_ ?_; rotate_left 2; (intro w'; go_simp; with_reducible rfl); (simp only [Rg.pq, Rg.pz, Rg.ps]; rfl)
              refine Rg.s_done ?_
              go_wp2_with fail
              go_roundw
              case rel =>
                refine ⟨k2 + 1, by omega, by go_num, Lib.hid (fun j u v hj hu hv => ?_), Lib.hid ⟨HD.out, HS2.out.1, HS2.out.2.1⟩⟩
                rcases Nat.lt_or_ge j k2 with h | h
                · exact hst2.out j u v h hu hv
                · obtain rfl : j = k2 := by omega
                  have h1 := HK.out.1
                  have h2 := HK.out.2.1
                  rw [hu] at h1
                  rw [hv] at h2
                  cases h1
                  cases h2
                  exact hp
              case measure => simp [intOf]; omega
          · have e2 := Lib.hid (eqP_true.1 (eqP_pos x.f2 y.f2 HE.out.2.2 (fun j u v h h2 => hst2.out j u v (by have := (List.getElem?_eq_some_iff.1 h).1; omega) h h2)))
            clear hst2
            go_wp2_with fail
            refine (HIx.out.1 y.f3 A3 c3 B3 d3 wr (Kd.C_below HH.out.2.2.1.2.2.2.1 hb2.out.1) HH.out.2.2.1.2.2.1 (Kd.C_below HH.out.2.2.2.2.2.2.1 hb2.out.1) HH.out.2.2.2.2.2.1).mono ?_
            rintro e w3 ⟨rfl, hc⟩
            have HD := Lib.hid (below_next hb2.out.1 (Nat.le_refl _) hc)
            have HS2 := Lib.hid (And.intro (hb2.out.2.1.up hc) (hb2.out.2.2.up hc))
            clear hc x0 x1 x2 x3 x4 y0 y1 y2 y3 y4
            obtain ⟨x0, x1, x2, x3, x4⟩ := HS2.out.1
            obtain ⟨y0, y1, y2, y3, y4⟩ := HS2.out.2
            cases r3 : eqP x.f3 y.f3 with
            | false =>
              go_wp2_with fail
              go_ret
              exact ⟨by rw [eqP_neg HH.out.1 HH.out.2.1 (stm_ne2 r3)]; rfl, below_next hb.out (Nat.le_refl _) HD.out⟩
            | true =>
            have e3 := Lib.hid (eqP_true.1 r3)
            go_wp2_with fail
            refine (HIx.out.2 y.f4 A4 c4 B4 d4 w3 (Kd.C_below HH.out.2.2.1.2.2.2.2.2 HD.out) HH.out.2.2.1.2.2.2.2.1 (Kd.C_below HH.out.2.2.2.2.2.2.2.2 HD.out) HH.out.2.2.2.2.2.2.2.1).mono ?_
            rintro e w4 ⟨rfl, hc⟩
            have HD2 := Lib.hid (below_next HD.out (Nat.le_refl _) hc)
            clear hc x0 x1 x2 x3 x4 y0 y1 y2 y3 y4
            cases r4 : eqP x.f4 y.f4 with
            | false =>
              go_wp2_with fail
              go_ret
              exact ⟨by rw [eqP_neg HH.out.1 HH.out.2.1 (stm_ne3 r4)]; rfl, below_next hb.out (Nat.le_refl _) HD2.out⟩
            | true =>
            have e4 := Lib.hid (eqP_true.1 r4)
            have e5 := Lib.hid (eqP_true.2 (stmtEq HE.out.1 HE.out.2.1 e2.out e3.out e4.out))
            go_wp2_with fail
            go_roundw
            case rel =>
              refine ⟨k + 1, by omega, by go_num, Lib.hid (fun j u v hj hu hv => ?_), Lib.hid (below_next hb.out (Nat.le_refl _) HD2.out)⟩
              rcases Nat.lt_or_ge j k with h | h
              · exact hst.out j u v h hu hv
              · obtain rfl : j = k := by omega
                have h1 := HH.out.1
                have h2 := HH.out.2.1
                rw [hu] at h1
                rw [hv] at h2
                cases h1
                cases h2
                exact e5.out
            case measure => simp [intOf]; omega
    · go_wp2_with fail
      go_ret
      exact ⟨by rw [eqP_pos _ _ HM.out (fun j u v h h2 => hst.out j u v (by have := (List.getElem?_eq_some_iff.1 h).1; omega) h h2)]; rfl, hb.out⟩
theorem rs_of {x : S64} (hO : OkS x) : RS x.f3 ∧ RS x.f4 := by
  induction hO with
  | mk h1 h2 h3 h4 k2 k3 k4 ih3 ih4 => exact ⟨rsames_step _ k3 h3 ih3, rsames_step _ k4 h4 ih4⟩
theorem rsames_calls (l : List S64) (hO : ∀ x ∈ l, OkS x) (hlen : l.length ≤ 140737488351232) : RS l := rsames_step l hO hlen (fun x hx => rs_of (hO x hx))
end Go.Proofs.YtlhnfgnihakcfaaDoor.Ax
set_option linter.unusedSimpArgs false
set_option linter.unusedVariables false
/- privityref27.Equal. -/
namespace Go.Proofs.YtlhnfgnihakcfaaDoor.Ax
open Go.RowKit Hp Kn
open Go.Proofs.YtlhnfgnihakcfaaDoorW.PrintWords Go.Proofs.YtlhnfgnihakcfaaDoorW.PrintLast Go.Proofs.YtlhnfgnihakcfaaDoorW.PrintMore
theorem inpEq {x y : S55} (h0 : x.f0 = y.f0) (h1 : x.f1 = y.f1) (h2 : x.f2 = y.f2) (h3 : x.f3 = y.f3) : x = y := by cases x; cases y; simp_all
theorem arrEq {x y : S58} (h0 : x.f0 = y.f0) (h1 : x.f1 = y.f1) : x = y := by cases x; cases y; simp_all
def inpCells (p : Addr) (x : S55) (W : World) : Prop :=
  W.cell? p = some (.string x.f0) ∧ W.cell? ⟨p.block, p.off + 1, none⟩ = some (.int .i64 x.f1) ∧ W.cell? ⟨p.block, p.off + 2, none⟩ = some (.int .i64 x.f2) ∧ W.cell? ⟨p.block, p.off + 3, none⟩ = some (.int .i64 x.f3)
theorem inpCells.below {p : Addr} {x : S55} {W W2 : World} (h : inpCells p x W) (hb : Below W.heap.size W W2) : inpCells p x W2 := by
  obtain ⟨s0, s1, s2, s3⟩ := h
  have k : ∀ (a : Addr) v, W.cell? a = some v → W2.cell? a = some v := fun a v h => (hb.cell (World.block_lt_of_cell? W _ h)).trans h
  exact ⟨k _ _ s0, k _ _ s1, k _ _ s2, k _ _ s3⟩
theorem inp_at {w : World} {ad : Addr} {xs : List S55} {y : S55} (hC : Kd.C k55 w (some ad) xs.length xs) (i : Nat) (hy : xs[i]? = some y) : inpCells (ad.add (i * 4)) y w := by
  have hl := (List.getElem?_eq_some_iff.1 hy).1
  obtain ⟨ad2, e, h0, h1, h2, h3⟩ := at_T55 hC (i : Int) (by omega) (by omega)
  cases e
  have hrd : rd_T55 xs (i : Int) = y := by simp [rd_T55, List.getD_eq_getElem?_getD, hy]
  rw [hrd] at h0 h1 h2 h3
  exact ⟨h0, h1, h2, h3⟩
theorem inp_addr {w : World} {A : Option Addr} {xs : List S55} (hC : Kd.C k55 w A xs.length xs) (h : 0 < xs.length) : ∃ ad, A = some ad := by
  obtain ⟨ad2, e, _⟩ := at_T55 hC 0 (by omega) (by omega)
  exact ⟨ad2, e⟩
def arrCells (p : Addr) (x : S58) (W : World) : Prop :=
  W.cell? p = some (.string x.f0) ∧ W.cell? ⟨p.block, p.off + 1, none⟩ = some (.int .i64 x.f1)
theorem arrCells.below {p : Addr} {x : S58} {W W2 : World} (h : arrCells p x W) (hb : Below W.heap.size W W2) : arrCells p x W2 := by
  obtain ⟨s0, s1⟩ := h
  have k : ∀ (a : Addr) v, W.cell? a = some v → W2.cell? a = some v := fun a v h => (hb.cell (World.block_lt_of_cell? W _ h)).trans h
  exact ⟨k _ _ s0, k _ _ s1⟩
theorem arr_at {w : World} {ad : Addr} {xs : List S58} {y : S58} (hC : Kd.C k58 w (some ad) xs.length xs) (i : Nat) (hy : xs[i]? = some y) : arrCells (ad.add (i * 2)) y w := by
  have hl := (List.getElem?_eq_some_iff.1 hy).1
  obtain ⟨ad2, e, h0, h1⟩ := at_T58 hC (i : Int) (by omega) (by omega)
  cases e
  have hrd : rd_T58 xs (i : Int) = y := by simp [rd_T58, List.getD_eq_getElem?_getD, hy]
  rw [hrd] at h0 h1
  exact ⟨h0, h1⟩
theorem arr_addr {w : World} {A : Option Addr} {xs : List S58} (hC : Kd.C k58 w A xs.length xs) (h : 0 < xs.length) : ∃ ad, A = some ad := by
  obtain ⟨ad2, e, _⟩ := at_T58 hC 0 (by omega) (by omega)
  exact ⟨ad2, e⟩
def PC (g : Nat) (A0 : Option Addr) (c0 : Nat) (l0 : List S55) (A1 : Option Addr) (c1 : Nat) (l1 : List S58) (A2 : Option Addr) (c2 : Nat) (l2 : List S64) (W : World) : Prop :=
  W.cell? ⟨g, 0, none⟩ = some (.slice A0 l0.length c0) ∧ W.cell? ⟨g, 1, none⟩ = some (.slice A1 l1.length c1) ∧ W.cell? ⟨g, 2, none⟩ = some (.slice A2 l2.length c2)
theorem PC.of {W : World} {g : Nat} {A0 : Option Addr} {c0 : Nat} {l0 : List S55} {A1 : Option Addr} {c1 : Nat} {l1 : List S58} {A2 : Option Addr} {c2 : Nat} {l2 : List S64} (h : Blk W g [.slice A0 l0.length c0, .slice A1 l1.length c1, .slice A2 l2.length c2] 26) : PC g A0 c0 l0 A1 c1 l1 A2 c2 l2 W :=
  ⟨h.cell 0 rfl, h.cell 1 rfl, h.cell 2 rfl⟩
set_option maxRecDepth 100000 in
set_option maxHeartbeats 2000000 in
theorem requal_calls (A0 : Option Addr) (c0 : Nat) (l0 : List S55) (A1 : Option Addr) (c1 : Nat) (l1 : List S58) (A2 : Option Addr) (c2 : Nat) (l2 : List S64) (B0 : Option Addr) (d0 : Nat) (m0 : List S55) (B1 : Option Addr) (d1 : Nat) (m1 : List S58) (B2 : Option Addr) (d2 : Nat) (m2 : List S64) (w : World) (hA0 : Kd.C k55 w A0 l0.length l0) (hA1 : Kd.C k58 w A1 l1.length l1) (hA2 : Kd.C k64 w A2 l2.length l2) (hAl2 : l2.length ≤ c2) (hB0 : Kd.C k55 w B0 m0.length m0) (hB1 : Kd.C k58 w B1 m1.length m1) (hB2 : Kd.C k64 w B2 m2.length m2) (hBl2 : m2.length ≤ d2) (n0 : l0.length ≤ 140737488351232) (n1 : l1.length ≤ 140737488351232) (n2 : l2.length ≤ 140737488351232) (hO : ∀ x ∈ l2, OkS x) :
    Calls Tryd.prog 15 #[.agg #[.slice A0 l0.length c0, .slice A1 l1.length c1, .slice A2 l2.length c2], .agg #[.slice B0 m0.length d0, .slice B1 m1.length d1, .slice B2 m2.length d2]] w fun e w' => e = .returned (.bool (eqP l0 m0 && eqP l1 m1 && eqP l2 m2)) ∧ Below w.heap.size w w' := by
  have HC := Lib.hid (And.intro (And.intro hA0 (And.intro hA1 hA2)) (And.intro hB0 (And.intro hB1 hB2)))
  have HO := Lib.hid hO
  clear hA0 hA1 hA2 hB0 hB1 hB2 hO
  have hu1 := Tryd.underlying55
  have hu2 := Tryd.underlying58
  have HB := Lib.hid (((Below.refl w.heap.size w).alloc (Nat.le_refl _) (.cells #[.slice A0 l0.length c0, .slice A1 l1.length c1, .slice A2 l2.length c2] 26)).alloc (by simp) (.cells #[.slice B0 m0.length d0, .slice B1 m1.length d1, .slice B2 m2.length d2] 26))
  have HS := Lib.hid (And.intro (PC.of (Blk.alloc (Blk.alloc_new w [.slice A0 l0.length c0, .slice A1 l1.length c1, .slice A2 l2.length c2] 26) (.cells #[.slice B0 m0.length d0, .slice B1 m1.length d1, .slice B2 m2.length d2] 26))) (PC.of (second_new w (.cells #[.slice A0 l0.length c0, .slice A1 l1.length c1, .slice A2 l2.length c2] 26) [.slice B0 m0.length d0, .slice B1 m1.length d1, .slice B2 m2.length d2] 26)))
  cases q0 : ((l0.length : Int) != (m0.length : Int)) with
  | true =>
    rw [eqP_false (show l0 ≠ m0 from fun e => by rw [e] at q0; simp at q0)]
    go_enter Tryd.func15, Tryd.ntmps15
    go_wp2_with fail
    go_ret
    exact ⟨rfl, HB.out⟩
  | false =>
  cases q1 : ((l1.length : Int) != (m1.length : Int)) with
  | true =>
    rw [eqP_false (show l1 ≠ m1 from fun e => by rw [e] at q1; simp at q1), Bool.and_false]
    go_enter Tryd.func15, Tryd.ntmps15
    go_wp2_with fail
    go_ret
    exact ⟨rfl, HB.out⟩
  | false =>
  have HM := Lib.hid (show l0.length = m0.length ∧ l1.length = m1.length from ⟨by have : (l0.length : Int) = m0.length := by simpa using q0
                                                                                  omega, by have : (l1.length : Int) = m1.length := by simpa using q1
                                                                                            omega⟩)
  go_enter Tryd.func15, Tryd.ntmps15
  go_wp2
  clear q0 q1
  go_loopw [5] (fun i wr => ∃ k : Nat, k ≤ l0.length ∧ i = .int .i64 k ∧ Hid (∀ (j : Nat) x y, j < k → l0[j]? = some x → m0[j]? = some y → eqP x y = true) ∧ Hid (Below w.heap.size w wr ∧ PC w.heap.size A0 c0 l0 A1 c1 l1 A2 c2 l2 wr ∧ PC (w.heap.size + 1) B0 d0 m0 B1 d1 m1 B2 d2 m2 wr)) (fun i _ => l0.length - (intOf i).toNat)
  case atStart => exact ⟨0, by omega, rfl, Lib.hid (fun j x y h => absurd h (by omega)), Lib.hid ⟨HB.out, HS.out⟩⟩
  case round =>
    obtain ⟨k, hk, rfl, hst, hb⟩ := hrel
    obtain ⟨x0, x1, x2⟩ := hb.out.2.1
    obtain ⟨y0, y1, y2⟩ := hb.out.2.2
    by_cases hlt : k < l0.length
    · have hlt2 : k < m0.length := by have := HM.out.1; omega
      have hi1 : (k : Int) < (l0.length : Int) := by omega
      have hi2 : (k : Int) < (m0.length : Int) := by omega
      obtain ⟨ad, rfl⟩ := inp_addr HC.out.1.1 (by omega)
      obtain ⟨bd, rfl⟩ := inp_addr HC.out.2.1 (by omega)
      obtain ⟨x, hx⟩ : ∃ x, l0[k]? = some x := ⟨_, List.getElem?_eq_getElem hlt⟩
      obtain ⟨y, hy⟩ : ∃ y, m0[k]? = some y := ⟨_, List.getElem?_eq_getElem hlt2⟩
      obtain ⟨a0, a1, a2, a3⟩ := inp_at (Kd.C_below HC.out.1.1 hb.out.1) k hx
      obtain ⟨b0, b1, b2, b3⟩ := inp_at (Kd.C_below HC.out.2.1 hb.out.1) k hy
      have HH := Lib.hid (And.intro hx hy)
      clear hx hy
      cases q0 : (x.f0.toList == y.f0.toList) with
      | false =>
        go_wp2
        repeat (go_quiet (fail); try go_wp2)
        go_ret
        exact ⟨by rw [eqP_neg HH.out.1 HH.out.2 (eqP_false fun e => by rw [e] at q0; simp at q0)]; simp, pw_below_drewN hb.out.1 _⟩
      | true =>
      cases q1 : (x.f1 == y.f1) with
      | false =>
        go_wp2
        repeat (go_quiet (fail); try go_wp2)
        go_ret
        exact ⟨by rw [eqP_neg HH.out.1 HH.out.2 (eqP_false fun e => by rw [e] at q1; simp at q1)]; simp, pw_below_drewN hb.out.1 _⟩
      | true =>
      cases q2 : (x.f2 == y.f2) with
      | false =>
        go_wp2
        repeat (go_quiet (fail); try go_wp2)
        go_ret
        exact ⟨by rw [eqP_neg HH.out.1 HH.out.2 (eqP_false fun e => by rw [e] at q2; simp at q2)]; simp, pw_below_drewN hb.out.1 _⟩
      | true =>
      cases q3 : (x.f3 == y.f3) with
      | false =>
        go_wp2
        repeat (go_quiet (fail); try go_wp2)
        go_ret
        exact ⟨by rw [eqP_neg HH.out.1 HH.out.2 (eqP_false fun e => by rw [e] at q3; simp at q3)]; simp, pw_below_drewN hb.out.1 _⟩
      | true =>
      have HE := Lib.hid (show eqP x y = true from eqP_true.2 (inpEq ((str_eq _ _).1 q0) (by simpa using q1) (by simpa using q2) (by simpa using q3)))
      go_wp2
      repeat (go_quiet (fail); try go_wp2)
      go_roundw
      case rel =>
        refine ⟨k + 1, by omega, by go_num, Lib.hid (fun j u v hj hu hv => ?_), Lib.hid ⟨pw_below_drewN hb.out.1 _, hb.out.2.1, hb.out.2.2⟩⟩
        rcases Nat.lt_or_ge j k with h | h
        · exact hst.out j u v h hu hv
        · obtain rfl : j = k := by omega
          have h1 := HH.out.1
          have h2 := HH.out.2
          rw [hu] at h1
          rw [hv] at h2
          cases h1
          cases h2
          exact HE.out
      case measure => simp [intOf]; omega
    · have E5 := Lib.hid (eqP_pos l0 m0 HM.out.1 (fun j u v h h2 => hst.out j u v (by have := (List.getElem?_eq_some_iff.1 h).1; omega) h h2))
      clear hst
      go_wp2
      have HB0 := Lib.hid (And.intro hb.out.1 (And.intro hb.out.2.1 hb.out.2.2))
      clear x0 x1 x2 y0 y1 y2 hb
      go_loopw [6] (fun i wr => ∃ k : Nat, k ≤ l1.length ∧ i = .int .i64 k ∧ Hid (∀ (j : Nat) x y, j < k → l1[j]? = some x → m1[j]? = some y → eqP x y = true) ∧ Hid (Below w.heap.size w wr ∧ PC w.heap.size A0 c0 l0 A1 c1 l1 A2 c2 l2 wr ∧ PC (w.heap.size + 1) B0 d0 m0 B1 d1 m1 B2 d2 m2 wr)) (fun i _ => l1.length - (intOf i).toNat)
      case atStart => exact ⟨0, by omega, rfl, Lib.hid (fun j x y h => absurd h (by omega)), HB0⟩
      case round =>
        obtain ⟨k, hk, rfl, hst, hb⟩ := hrel
        obtain ⟨x0, x1, x2⟩ := hb.out.2.1
        obtain ⟨y0, y1, y2⟩ := hb.out.2.2
        by_cases hlt : k < l1.length
        · have hlt2 : k < m1.length := by have := HM.out.2; omega
          have hi1 : (k : Int) < (l1.length : Int) := by omega
          have hi2 : (k : Int) < (m1.length : Int) := by omega
          obtain ⟨ad, rfl⟩ := arr_addr HC.out.1.2.1 (by omega)
          obtain ⟨bd, rfl⟩ := arr_addr HC.out.2.2.1 (by omega)
          obtain ⟨x, hx⟩ : ∃ x, l1[k]? = some x := ⟨_, List.getElem?_eq_getElem hlt⟩
          obtain ⟨y, hy⟩ : ∃ y, m1[k]? = some y := ⟨_, List.getElem?_eq_getElem hlt2⟩
          obtain ⟨a0, a1⟩ := arr_at (Kd.C_below HC.out.1.2.1 hb.out.1) k hx
          obtain ⟨b0, b1⟩ := arr_at (Kd.C_below HC.out.2.2.1 hb.out.1) k hy
          have HH := Lib.hid (And.intro hx hy)
          clear hx hy
          cases q0 : (x.f0.toList == y.f0.toList) with
          | false =>
            go_wp2
            repeat (go_quiet (fail); try go_wp2)
            go_ret
            exact ⟨by rw [eqP_neg HH.out.1 HH.out.2 (eqP_false fun e => by rw [e] at q0; simp at q0)]; simp, pw_below_drewN hb.out.1 _⟩
          | true =>
          cases q1 : (x.f1 == y.f1) with
          | false =>
            go_wp2
            repeat (go_quiet (fail); try go_wp2)
            go_ret
            exact ⟨by rw [eqP_neg HH.out.1 HH.out.2 (eqP_false fun e => by rw [e] at q1; simp at q1)]; simp, pw_below_drewN hb.out.1 _⟩
          | true =>
          have HE := Lib.hid (show eqP x y = true from eqP_true.2 (arrEq ((str_eq _ _).1 q0) (by simpa using q1)))
          go_wp2
          repeat (go_quiet (fail); try go_wp2)
          go_roundw
          case rel =>
            refine ⟨k + 1, by omega, by go_num, Lib.hid (fun j u v hj hu hv => ?_), Lib.hid ⟨pw_below_drewN hb.out.1 _, hb.out.2.1, hb.out.2.2⟩⟩
            rcases Nat.lt_or_ge j k with h | h
            · exact hst.out j u v h hu hv
            · obtain rfl : j = k := by omega
              have h1 := HH.out.1
              have h2 := HH.out.2
              rw [hu] at h1
              rw [hv] at h2
              cases h1
              cases h2
              exact HE.out
          case measure => simp [intOf]; omega
        · have E6 := Lib.hid (eqP_pos l1 m1 HM.out.2 (fun j u v h h2 => hst.out j u v (by have := (List.getElem?_eq_some_iff.1 h).1; omega) h h2))
          clear hst
          go_wp2_with fail
          refine (rsames_calls l2 HO.out n2 m2 A2 c2 B2 d2 _ (Kd.C_below HC.out.1.2.2 hb.out.1) hAl2 (Kd.C_below HC.out.2.2.2 hb.out.1) hBl2).mono ?_
          rintro e w2 ⟨rfl, hc⟩
          go_wp2_with fail
          go_ret
          exact ⟨by rw [E5.out, E6.out]; rfl, below_next hb.out.1 (Nat.le_refl _) hc⟩
end Go.Proofs.YtlhnfgnihakcfaaDoor.Ax
set_option linter.unusedSimpArgs false
set_option linter.unusedVariables false
/- privityref27.Few. -/
namespace Go.Proofs.YtlhnfgnihakcfaaDoor.Ax
open Go.RowKit Hp Kn
open Go.Proofs.YtlhnfgnihakcfaaDoorW.PrintWords Go.Proofs.YtlhnfgnihakcfaaDoorW.PrintLast Go.Proofs.YtlhnfgnihakcfaaDoorW.PrintMore
/-- nodes of an expression, down to a depth -/
def cE : Nat → S40 → Nat
  | 0, _ => 0
  | n + 1, x => 1 + (x.f4.map (cE n)).sum
def cS : Nat → S64 → Nat
  | 0, _ => 0
  | n + 1, x => 1 + (x.f2.map (cE n)).sum + (x.f3.map (cS n)).sum + (x.f4.map (cS n)).sum
def sumN {α : Type} (f : α → Nat) (l : List α) : Int := ((l.map f).sum : Nat)
theorem sumN_take {α : Type} (f : α → Nat) (l : List α) (k : Nat) (x : α) (h : l[k]? = some x) : sumN f (l.take (k + 1)) = sumN f (l.take k) + f x := by
  unfold sumN
  rw [List.take_add_one, h]
  simp
theorem sumN_zero {α : Type} (l : List α) (f : α → Nat) (h : ∀ x, f x = 0) : sumN f l = 0 := by
  unfold sumN
  induction l with
  | nil => rfl
  | cons a l ih => simp only [List.map_cons, List.sum_cons, h a]; omega
theorem sumN_one {α : Type} (l : List α) (f g : α → Nat) (h : ∀ x, f x = 1 + g x) : sumN f l = l.length + sumN g l := by
  unfold sumN
  induction l with
  | nil => rfl
  | cons a l ih => simp only [List.map_cons, List.sum_cons, h a, List.length_cons]; omega
theorem sumN_nonneg {α : Type} (f : α → Nat) (l : List α) : 0 ≤ sumN f l := Int.natCast_nonneg _
structure GoodE (l : List S40) (left r : Int) : Prop where
  le : r ≤ left
  lo : left < 0 → left - 140737488355328 ≤ r
  hi : 0 ≤ left → -140737488355328 ≤ r
  sum : 0 ≤ r → ∀ n, sumN (cE n) l + r ≤ left
def FewE (l : List S40) : Prop := ∀ (level left : Int) (A : Option Addr) (c : Nat) (w : World), 1 ≤ level → level ≤ 41 → -1152921504606846976 ≤ left → left ≤ 1152921504606846976 → Kd.C k40 w A l.length l → l.length ≤ c →
  Calls Tryd.prog 49 #[.slice A l.length c, .int .i64 level, .int .i64 left] w fun e w' => ∃ r, e = .returned (.int .i64 r) ∧ GoodE l left r ∧ Below w.heap.size w w'
theorem goodE_end {l : List S40} {left v : Int} (hl : l.length ≤ 140737488351232) (h1 : v ≤ left - l.length) (h2 : left < 0 → left - 140737488355328 ≤ v) (h3 : 0 ≤ left → -140737488355328 ≤ v) (h4 : 0 ≤ v → ∀ n, sumN (fun x => (x.f4.map (cE n)).sum) l + l.length + v ≤ left) : GoodE l left v := by
  refine ⟨by omega, h2, h3, fun hv n => ?_⟩
  cases n with
  | zero => rw [sumN_zero l (cE 0) (fun _ => rfl)]; omega
  | succ n =>
    have := h4 hv n
    rw [sumN_one l (cE (n + 1)) (fun x => (x.f4.map (cE n)).sum) (fun _ => rfl)]
    omega
set_option maxRecDepth 100000 in
set_option maxHeartbeats 1000000 in
theorem fewE_step (l : List S40) (hlen : l.length ≤ 140737488351232) (IH : ∀ x ∈ l, FewE x.f4) : FewE l := by
  intro level left A c w hv0 hv1 hl0 hl1 hC hc
  have HC := Lib.hid hC
  have HI := Lib.hid IH
  clear hC IH
  go_enter Tryd.func49, Tryd.ntmps49
  go_wp2
  go_loopw [2, 7] (fun v i wr => ∃ (k : Nat) (v' : Int), k ≤ l.length ∧ i = .int .i64 k ∧ v = .int .i64 v' ∧ v' ≤ left - l.length ∧ -1152921504606846976 - 140737488355328 ≤ v' ∧ Hid ((left < 0 → left - 140737488355328 ≤ v') ∧ (0 ≤ left → -140737488355328 ≤ v') ∧ (0 ≤ v' → ∀ n, sumN (fun x => (x.f4.map (cE n)).sum) (l.take k) + l.length + v' ≤ left)) ∧ Hid (Below w.heap.size w wr)) (fun _ i _ => l.length - (intOf i).toNat)
  case atStart => exact ⟨0, left - l.length, by omega, rfl, by first | rfl | go_num, by omega, by omega, Lib.hid ⟨by omega, by omega, fun h n => by rw [show sumN (fun x : S40 => (x.f4.map (cE n)).sum) (l.take 0) = 0 from rfl]; omega⟩, Lib.hid (Below.refl _ _)⟩
  case round =>
    obtain ⟨k, v, hk, rfl, rfl, hv, hvl, hq, hb⟩ := hrel
    by_cases hlt : k < l.length
    · by_cases hpos : 0 ≤ v
      · by_cases hlev : level = 41
        · go_wp2_with fail
          go_ret
          exact ⟨-1, rfl, ⟨by omega, by omega, by omega, by omega⟩, hb.out⟩
        · have hlev2 : level ≤ 40 := by omega
          have hi1 : (k : Int) < (l.length : Int) := by omega
          obtain ⟨ad, rfl⟩ := some_addr HC.out (by omega)
          obtain ⟨x, hx⟩ : ∃ x, l[k]? = some x := ⟨_, List.getElem?_eq_getElem hlt⟩
          obtain ⟨xA, xc, xE, xl, xC⟩ := kid_at (Kd.C_below HC.out hb.out) k hx
          obtain ⟨x0, x1, x2, x3, x4⟩ := xE
          have HX := Lib.hid (And.intro (HI.out x (List.mem_of_getElem? hx)) (And.intro hx (And.intro xl xC)))
          clear hx xl xC
          go_wp2_with fail
          refine (HX.out.1 (level + 1) v xA xc wr (by omega) (by omega) (by omega) (by omega) HX.out.2.2.2 HX.out.2.2.1).mono ?_
          rintro e w2 ⟨r, rfl, hg, hc2⟩
          have HG := Lib.hid hg
          have HD := Lib.hid (below_next hb.out (Nat.le_refl _) hc2)
          have r1 := hg.le
          have r2 := hg.hi hpos
          clear hc2 hg x0 x1 x2 x3 x4
          go_wp2_with fail
          go_roundw
          case rel =>
            refine ⟨k + 1, r, by omega, by go_num, rfl, by omega, by omega, Lib.hid ⟨by have := hq.out.1; omega, by omega, fun hr n => ?_⟩, HD⟩
            have h1 := HG.out.sum hr n
            have h2 := hq.out.2.2 hpos n
            rw [sumN_take _ l k x HX.out.2.1]
            unfold sumN at h1 h2 ⊢
            omega
          case measure => simp [intOf]; omega
      · go_wp2_with fail
        go_ret
        exact ⟨v, rfl, goodE_end hlen hv hq.out.1 hq.out.2.1 (fun h => absurd h (by omega)), hb.out⟩
    · have hkl : k = l.length := by omega
      go_wp2_with fail
      go_ret
      refine ⟨v, rfl, goodE_end hlen hv hq.out.1 hq.out.2.1 (fun h n => ?_), hb.out⟩
      have := hq.out.2.2 h n
      rw [List.take_of_length_le (by omega)] at this
      exact this
theorem fewE_of {x : S40} (hO : OkE x) : FewE x.f4 := by
  induction hO with
  | mk h0 h1 h3 h4 hk ih => exact fewE_step _ h4 ih
theorem fewE_calls (l : List S40) (hO : ∀ x ∈ l, OkE x) (hlen : l.length ≤ 140737488351232) : FewE l := fewE_step l hlen (fun x hx => fewE_of (hO x hx))
structure GoodS (level : Int) (l : List S64) (left r : Int) : Prop where
  le : r ≤ left
  lo : left < 0 → left - 140737488355328 ≤ r
  hi : 0 ≤ left → -(42 - level) * 281474976710656 ≤ r
  sum : 0 ≤ r → ∀ n, sumN (cS n) l + r ≤ left
def FewS (l : List S64) : Prop := ∀ (level left : Int) (A : Option Addr) (c : Nat) (w : World), 1 ≤ level → level ≤ 41 → -1152921504606846976 ≤ left → left ≤ 1152921504606846976 → Kd.C k64 w A l.length l → l.length ≤ c →
  Calls Tryd.prog 26 #[.slice A l.length c, .int .i64 level, .int .i64 left] w fun e w' => ∃ r, e = .returned (.int .i64 r) ∧ GoodS level l left r ∧ Below w.heap.size w w'
theorem goodS_end {level : Int} {l : List S64} {left v : Int} (hl : l.length ≤ 140737488351232) (h1 : v ≤ left - l.length) (h2 : left < 0 → left - 140737488355328 ≤ v) (h3 : 0 ≤ left → -(42 - level) * 281474976710656 ≤ v) (h4 : 0 ≤ v → ∀ n, sumN (fun x => (x.f2.map (cE n)).sum + (x.f3.map (cS n)).sum + (x.f4.map (cS n)).sum) l + l.length + v ≤ left) : GoodS level l left v := by
  refine ⟨by omega, h2, h3, fun hv n => ?_⟩
  cases n with
  | zero => rw [sumN_zero l (cS 0) (fun _ => rfl)]; omega
  | succ n =>
    have := h4 hv n
    rw [sumN_one l (cS (n + 1)) (fun x => (x.f2.map (cE n)).sum + (x.f3.map (cS n)).sum + (x.f4.map (cS n)).sum) (fun _ => by simp only [cS]; omega)]
    omega
set_option maxRecDepth 100000 in
set_option maxHeartbeats 2000000 in
theorem fewS_step (l : List S64) (hO : ∀ x ∈ l, OkS x) (hlen : l.length ≤ 140737488351232) (IH : ∀ x ∈ l, FewS x.f3 ∧ FewS x.f4) : FewS l := by
  intro level left A c w hv0 hv1 hl0 hl1 hC hc
  have HC := Lib.hid hC
  have HI := Lib.hid IH
  have HO := Lib.hid hO
  clear hC IH hO
  go_enter Tryd.func26, Tryd.ntmps26
  go_wp2
  go_loopw [2, 7] (fun v i wr => ∃ (k : Nat) (v' : Int), k ≤ l.length ∧ i = .int .i64 k ∧ v = .int .i64 v' ∧ v' ≤ left - l.length ∧ -1152921504606846976 - 140737488355328 ≤ v' ∧ Hid ((left < 0 → left - 140737488355328 ≤ v') ∧ (0 ≤ left → -(42 - level) * 281474976710656 ≤ v') ∧ (0 ≤ v' → ∀ n, sumN (fun x => (x.f2.map (cE n)).sum + (x.f3.map (cS n)).sum + (x.f4.map (cS n)).sum) (l.take k) + l.length + v' ≤ left)) ∧ Hid (Below w.heap.size w wr)) (fun _ i _ => l.length - (intOf i).toNat)
  case atStart => exact ⟨0, left - l.length, by omega, rfl, by first | rfl | go_num, by omega, by omega, Lib.hid ⟨by omega, by omega, fun h n => by rw [show sumN (fun x : S64 => (x.f2.map (cE n)).sum + (x.f3.map (cS n)).sum + (x.f4.map (cS n)).sum) (l.take 0) = 0 from rfl]; omega⟩, Lib.hid (Below.refl _ _)⟩
  case round =>
    obtain ⟨k, v, hk, rfl, rfl, hv, hvl, hq, hb⟩ := hrel
    by_cases hlt : k < l.length
    · by_cases hpos : 0 ≤ v
      · by_cases hlev : level = 41
        · go_wp2_with fail
          go_ret
          exact ⟨-1, rfl, ⟨by omega, by omega, by omega, by omega⟩, hb.out⟩
        · have hlev2 : level ≤ 40 := by omega
          have hi1 : (k : Int) < (l.length : Int) := by omega
          obtain ⟨ad, rfl⟩ := some_addrS HC.out (by omega)
          obtain ⟨x, hx⟩ : ∃ x, l[k]? = some x := ⟨_, List.getElem?_eq_getElem hlt⟩
          obtain ⟨A2, c2, A3, c3, A4, c4, xE, xH⟩ := stm_at (Kd.C_below HC.out hb.out) k hx
          have HX := Lib.hid (And.intro (HI.out x (List.mem_of_getElem? hx)) (And.intro hx xH))
          have HOx := Lib.hid (show FewE x.f2 by have := HO.out x (List.mem_of_getElem? hx); cases this with | mk _ l2 _ _ k2 _ _ => exact fewE_calls _ k2 l2)
          have HS := Lib.hid xE
          clear hx xH xE
          obtain ⟨x0, x1, x2, x3, x4⟩ := HS.out
          go_wp2_with fail
          refine (HOx.out (level + 1) v A2 c2 wr (by omega) (by omega) (by omega) (by omega) HX.out.2.2.2.1 HX.out.2.2.1).mono ?_
          rintro e w2 ⟨r, rfl, hg, hc2⟩
          have HG := Lib.hid hg
          have HD := Lib.hid hc2
          have HS2 := Lib.hid (HS.out.below hc2)
          have r1 := hg.le
          have r2 := hg.hi hpos
          clear hc2 hg x0 x1 x2 x3 x4
          obtain ⟨x0, x1, x2, x3, x4⟩ := HS2.out
          go_wp2_with fail
          refine (HX.out.1.1 (level + 1) r A3 c3 w2 (by omega) (by omega) (by omega) (by omega) (Kd.C_below HX.out.2.2.2.2.2.1 HD.out) HX.out.2.2.2.2.1).mono ?_
          rintro e w3 ⟨r3, rfl, hg, hc2⟩
          have HG3 := Lib.hid hg
          have HD3 := Lib.hid (below_next HD.out (Nat.le_refl _) hc2)
          have HS3 := Lib.hid (HS2.out.below hc2)
          have t1 := hg.le
          have t2 : -(41 - level) * 281474976710656 ≤ r3 ∨ (r < 0 ∧ r - 140737488355328 ≤ r3) := by
            by_cases h : 0 ≤ r
            · left; have := hg.hi h; omega
            · right; exact ⟨by omega, hg.lo (by omega)⟩
          clear hc2 hg x0 x1 x2 x3 x4
          obtain ⟨x0, x1, x2, x3, x4⟩ := HS3.out
          go_wp2_with fail
          refine (HX.out.1.2 (level + 1) r3 A4 c4 w3 (by omega) (by omega) (by omega) (by omega) (Kd.C_below HX.out.2.2.2.2.2.2.2 HD3.out) HX.out.2.2.2.2.2.2.1).mono ?_
          rintro e w4 ⟨r4, rfl, hg, hc2⟩
          have HG4 := Lib.hid hg
          have HD4 := Lib.hid (below_next hb.out (Nat.le_refl _) (below_next HD3.out (Nat.le_refl _) hc2))
          have u1 := hg.le
          have u2 : -(41 - level) * 281474976710656 ≤ r4 ∨ (r3 < 0 ∧ r3 - 140737488355328 ≤ r4) := by
            by_cases h : 0 ≤ r3
            · left; have := hg.hi h; omega
            · right; exact ⟨by omega, hg.lo (by omega)⟩
          clear hc2 hg x0 x1 x2 x3 x4
          go_wp2_with fail
          go_roundw
          case rel =>
            refine ⟨k + 1, r4, by omega, by go_num, rfl, by omega, by omega, Lib.hid ⟨by have := hq.out.1; omega, by omega, fun hr n => ?_⟩, HD4⟩
            have h1 := HG.out.sum (by omega) n
            have h2 := hq.out.2.2 hpos n
            have h3 := HG3.out.sum (by omega) n
            have h4 := HG4.out.sum hr n
            rw [sumN_take _ l k x HX.out.2.1]
            unfold sumN at h1 h2 h3 h4 ⊢
            omega
          case measure => simp [intOf]; omega
      · go_wp2_with fail
        go_ret
        exact ⟨v, rfl, goodS_end hlen hv hq.out.1 hq.out.2.1 (fun h => absurd h (by omega)), hb.out⟩
    · have hkl : k = l.length := by omega
      go_wp2_with fail
      go_ret
      refine ⟨v, rfl, goodS_end hlen hv hq.out.1 hq.out.2.1 (fun h n => ?_), hb.out⟩
      have := hq.out.2.2 h n
      rw [List.take_of_length_le (by omega)] at this
      exact this
theorem fewS_of {x : S64} (hO : OkS x) : FewS x.f3 ∧ FewS x.f4 := by
  induction hO with
  | mk h1 h2 h3 h4 k2 k3 k4 ih3 ih4 => exact ⟨fewS_step _ k3 h3 ih3, fewS_step _ k4 h4 ih4⟩
theorem fewS_calls (l : List S64) (hO : ∀ x ∈ l, OkS x) (hlen : l.length ≤ 140737488351232) : FewS l := fewS_step l hO hlen (fun x hx => fewS_of (hO x hx))
set_option maxRecDepth 100000 in
theorem few_calls (A0 : Option Addr) (c0 : Nat) (l0 : List S55) (A1 : Option Addr) (c1 : Nat) (l1 : List S58) (A2 : Option Addr) (c2 : Nat) (l2 : List S64) (w : World) (hA2 : Kd.C k64 w A2 l2.length l2) (hAl2 : l2.length ≤ c2) (n2 : l2.length ≤ 140737488351232) (hO : ∀ x ∈ l2, OkS x) :
    Calls Tryd.prog 10 #[.agg #[.slice A0 l0.length c0, .slice A1 l1.length c1, .slice A2 l2.length c2], .int .i64 200] w fun e w' => ∃ b : Bool, e = .returned (.bool b) ∧ (b = true → l0.length ≤ 40 ∧ l1.length ≤ 40 ∧ ∀ n, (l2.map (cS n)).sum ≤ 200) ∧ Below w.heap.size w w' := by
  have HC := Lib.hid hA2
  have HO := Lib.hid hO
  clear hA2 hO
  have HB := Lib.hid ((Below.refl w.heap.size w).alloc (Nat.le_refl _) (.cells #[.slice A0 l0.length c0, .slice A1 l1.length c1, .slice A2 l2.length c2] 26))
  by_cases q0 : l0.length ≤ 40
  · by_cases q1 : l1.length ≤ 40
    · have t0 : decide ((l0.length : Int) ≤ 40) = true := by simp; omega
      have t1 : decide ((l1.length : Int) ≤ 40) = true := by simp; omega
      go_enter Tryd.func10, Tryd.ntmps10
      go_wp2_with fail
      refine (fewS_calls l2 HO.out n2 1 200 A2 c2 _ (by omega) (by omega) (by omega) (by omega) (Kd.C_below HC.out HB.out) hAl2).mono ?_
      rintro e w2 ⟨r, rfl, hg, hc⟩
      have HG := Lib.hid hg
      have HD := Lib.hid (below_next HB.out (Nat.le_refl _) hc)
      clear hg hc
      go_wp2_with fail
      go_ret
      refine ⟨_, rfl, fun h => ⟨q0, q1, fun n => ?_⟩, HD.out⟩
      have h0 : 0 ≤ r := by simpa using h
      have := HG.out.sum h0 n
      unfold sumN at this
      omega
    · have t0 : decide ((l0.length : Int) ≤ 40) = true := by simp; omega
      have t1 : decide ((l1.length : Int) ≤ 40) = false := by simp; omega
      go_enter Tryd.func10, Tryd.ntmps10
      go_wp2_with fail
      go_ret
      exact ⟨false, rfl, (by intro h; cases h), HB.out⟩
  · have t0 : decide ((l0.length : Int) ≤ 40) = false := by simp; omega
    go_enter Tryd.func10, Tryd.ntmps10
    go_wp2_with fail
    go_ret
    exact ⟨false, rfl, (by intro h; cases h), HB.out⟩
end Go.Proofs.YtlhnfgnihakcfaaDoor.Ax
set_option linter.unusedSimpArgs false
set_option linter.unusedVariables false
/- A program that came in as data is a row of declarations and of trees. -/
namespace Go.Proofs.YtlhnfgnihakcfaaDoor.Ax
open Go.RowKit Hp Kn
open Go.Proofs.YtlhnfgnihakcfaaDoorW.PrintWords Go.Proofs.YtlhnfgnihakcfaaDoorW.PrintLast Go.Proofs.YtlhnfgnihakcfaaDoorW.PrintMore
theorem list_of {α : Type} {Q : Nat → α → Prop} : ∀ n : Nat, (∀ i, i < n → ∃ p, Q i p) → ∃ l : List α, l.length = n ∧ ∀ i p, l[i]? = some p → Q i p
  | 0, _ => ⟨[], rfl, fun i p h => by simp at h⟩
  | n + 1, h => by
    obtain ⟨l, hl, hq⟩ := list_of n (fun i hi => h i (by omega))
    obtain ⟨p, hp⟩ := h n (by omega)
    refine ⟨l ++ [p], by simp [hl], fun i q hi => ?_⟩
    rcases Nat.lt_or_ge i n with hlt | hge
    · rw [List.getElem?_append_left (by omega)] at hi
      exact hq i q hi
    · rw [List.getElem?_append_right (by omega)] at hi
      obtain rfl : i = n := by
        have := (List.getElem?_eq_some_iff.1 hi).1
        simp at this
        omega
      rw [hl] at hi
      simp at hi
      subst hi
      exact hp
theorem weightsAll_mem1 {H : Type} {P : Program} {e : TypeId} : ∀ {l : List (DataW H)} {d : DataW H}, d ∈ l → (DataW.weightsAll P e l).all (· ≤ reachBytes) = true → (d.weights P e).all (· ≤ reachBytes) = true
  | [], _, h, _ => by cases h
  | a :: l, d, h, hw => by
    simp only [DataW.weightsAll, List.all_append, Bool.and_eq_true] at hw
    rcases List.mem_cons.1 h with rfl | h
    · exact hw.1
    · exact weightsAll_mem1 h hw.2
theorem weights_head {H : Type} {P : Program} {t : TypeId} {ts : List TypeId} {d : DataW H} {ds : List (DataW H)} (h : (DataW.weightsEach P (t :: ts) (d :: ds)).all (· ≤ reachBytes) = true) : (d.weights P t).all (· ≤ reachBytes) = true ∧ (DataW.weightsEach P ts ds).all (· ≤ reachBytes) = true := by
  simpa only [DataW.weightsEach, List.all_append, Bool.and_eq_true] using h
theorem weights_agg {H : Type} {P : Program} {t : TypeId} {fs : Array Field} (ht : P.underlying t = some (.struct fs)) (parts : List (DataW H)) : (DataW.agg parts).weights P t = DataW.weightsEach P (fs.toList.map (·.type)) parts := by
  simp only [DataW.weights, ht]
theorem weights_slice {H : Type} {P : Program} {t e : TypeId} (ht : P.underlying t = some (.slice e)) (elems spare : List (DataW H)) : (DataW.slice elems spare).weights P t = (elems.length + spare.length) * P.bytesOf e :: (DataW.weightsAll P e elems ++ DataW.weightsAll P e spare) := by
  simp only [DataW.weights, ht]
section
variable {H : Type} {enc : TypeId × Value → H} {w : World} {base : Nat} {sp : Nat → Bool} {held : Bool}
theorem fld {P : Program} {n k off : Nat} {t : TypeId} {cs sub : List Value} {fs : Array Field} {xs : List (DataW H × List MemPlace)} {y : DataW H × List MemPlace} (i : Nat) {f : Field} (hf : ∀ (i : Nat) (f : Field), fs[i]? = some f → DataW.trod enc P w base sp held n f.type ((cs.drop f.offset).take (P.cellsOf f.type)) = xs[i]?) (hi : fs[i]? = some f) (ht : f.type = t) (ho : f.offset = off) (e : P.cellsOf t = k) (hs : (cs.drop off).take k = sub) (hy : xs[i]? = some y) : DataW.trod enc P w base sp held n t sub = some y := by
  have := hf i f hi
  rw [ht, ho, e, hs, hy] at this
  exact this
set_option maxRecDepth 100000 in
/-- a slice, its elements opened -/
theorem open_row {α : Type} (d : Kd α) (ok : α → Prop) {t e : TypeId} {fuel b : Nat} {cs : List Value} {x : DataW H × List MemPlace} (hsz : Tryd.prog.cellsOf e = d.sz) (ht : Tryd.prog.underlying t = some (.slice e)) (hby : Tryd.prog.bytesOf e = b + 1)
    (h : DataW.trod enc Tryd.prog w base sp held fuel t cs = some x) (hw : (x.1.weights Tryd.prog t).all (· ≤ reachBytes) = true)
    (ih : ∀ m, m < fuel → ∀ (cs' : List Value) (y : DataW H × List MemPlace), DataW.trod enc Tryd.prog w base sp held m e cs' = some y → (y.1.weights Tryd.prog e).all (· ≤ reachBytes) = true → ∃ p, d.K w p cs' ∧ ok p) :
    ∃ (A : Option Addr) (l : List α) (c : Nat), cs = [.slice A l.length c] ∧ l.length ≤ c ∧ Kd.C d w A l.length l ∧ (∀ p ∈ l, ok p) ∧ l.length ≤ 140737488351232 := by
  rcases DataW.trod_slice ht h with ⟨rfl, rfl⟩ | ⟨a, len, cap, elems, rest, n, rfl, rfl, rfl, hb, hlc, hcm, hel, hget, _, _⟩
  · exact ⟨none, [], 0, rfl, Nat.le_refl _, Kd.C_nil d w, by simp, by simp⟩
  · rw [weights_slice ht] at hw
    simp only [List.all_cons, List.all_append, Bool.and_eq_true, decide_eq_true_eq, List.length_map] at hw
    obtain ⟨hw0, hw1, _⟩ := hw
    have hbound : len ≤ 140737488351232 := by
      rw [hby] at hw0
      have h1 : (elems.length + rest.length) * 1 ≤ (elems.length + rest.length) * (b + 1) := Nat.mul_le_mul_left _ (by omega)
      have h2 : reachBytes = 140737488351232 := rfl
      omega
    obtain ⟨l, hl, hq⟩ := list_of (Q := fun i p => ∃ cs', cs'.length = d.sz ∧ d.K w p cs' ∧ ok p ∧ ∀ j u, cs'[j]? = some u → w.cell? (a.add (i * d.sz + j)) = some u) len (fun i hi => by
      have h1 := hget i hi
      obtain ⟨y, hy⟩ : ∃ y, elems[i]? = some y := ⟨_, List.getElem?_eq_getElem (by omega)⟩
      rw [hy, Option.bind_eq_some_iff] at h1
      obtain ⟨cs', hc, htr⟩ := h1
      obtain ⟨p, hp, hok⟩ := ih n (by omega) cs' y htr (weightsAll_mem1 (List.mem_map.2 ⟨y, List.mem_of_getElem? hy, rfl⟩) hw1)
      obtain ⟨_, hlen, hcell⟩ := World.cells?_some hc
      refine ⟨p, cs', by rw [← hsz]; exact hlen, hp, hok, fun j u hj => ?_⟩
      have hjl := (List.getElem?_eq_some_iff.1 hj).1
      have := hcell j (by omega)
      rw [hj, hsz] at this
      rw [← this]
      congr 1
      exact (Addr.add_add a (i * d.sz) j).symm)
    subst hl
    refine ⟨some a, l, cap, rfl, hlc, ⟨rfl, by omega, fun _ => ⟨a, rfl, fun j p hj => ?_⟩⟩, fun p hp => ?_, hbound⟩
    · obtain ⟨cs', h1, h2, h3, h4⟩ := hq j p hj
      exact ⟨cs', h1, h2, h4⟩
    · obtain ⟨i, hi⟩ := List.getElem?_of_mem hp
      obtain ⟨_, _, _, h3, _⟩ := hq i p hi
      exact h3
theorem wf_u64 {n : Int} (h : (Lit.int .u64 n).wf = true) : 0 ≤ n ∧ n < 18446744073709551616 := by
  have h : IntKind.min .u64 ≤ n ∧ n ≤ IntKind.max .u64 := by simpa only [Lit.wf, Bool.and_eq_true, decide_eq_true_eq] using h
  have e0 : IntKind.min .u64 = 0 := by decide
  have e1 : IntKind.max .u64 = 18446744073709551615 := by decide
  rw [e0, e1] at h
  omega
theorem wf_i64 {n : Int} (h : (Lit.int .i64 n).wf = true) : -9223372036854775808 ≤ n ∧ n ≤ 9223372036854775807 := by
  have h : IntKind.min .i64 ≤ n ∧ n ≤ IntKind.max .i64 := by simpa only [Lit.wf, Bool.and_eq_true, decide_eq_true_eq] using h
  have e0 : IntKind.min .i64 = -9223372036854775808 := by decide
  have e1 : IntKind.max .i64 = 9223372036854775807 := by decide
  rw [e0, e1] at h
  omega
theorem w_str {s : ByteArray} {t : TypeId} (h : ((DataW.lit (H := H) (.string s.data.toList)).weights Tryd.prog t).all (· ≤ reachBytes) = true) : s.size ≤ 140737488351232 := by
  simp only [DataW.weights, List.all_cons, List.all_nil, Bool.and_true, decide_eq_true_eq] at h
  have h2 : reachBytes = 140737488351232 := rfl
  rw [h2, Array.length_toList] at h
  exact h
set_option maxRecDepth 100000 in
theorem open_E : ∀ (fuel : Nat) (cs : List Value) (x : DataW H × List MemPlace), DataW.trod enc Tryd.prog w base sp held fuel 40 cs = some x → (x.1.weights Tryd.prog 40).all (· ≤ reachBytes) = true → ∃ X : S40, k40.K w X cs ∧ OkE X := by
  intro fuel
  induction fuel using Nat.strongRecOn with
  | _ fuel ih =>
    intro cs x h hw
    obtain ⟨xs, n, rfl, rfl, hl, hlen, hf⟩ := DataW.trod_struct Tryd.underlying40 h
    rw [show Tryd.prog.cellsOf 40 = 5 by kernel_rfl] at hl
    match xs, hlen with
    | [y0, y1, y2, y3, y4], _ =>
    match cs, hl with
    | [c0, c1, c2, c3, c4], _ =>
    have g0 : DataW.trod enc Tryd.prog w base sp held n 3 [c0] = some y0 := fld (k := 1) 0 hf rfl rfl rfl (by kernel_rfl) rfl rfl
    have g1 : DataW.trod enc Tryd.prog w base sp held n 3 [c1] = some y1 := fld (k := 1) 1 hf rfl rfl rfl (by kernel_rfl) rfl rfl
    have g2 : DataW.trod enc Tryd.prog w base sp held n 37 [c2] = some y2 := fld (k := 1) 2 hf rfl rfl rfl (by kernel_rfl) rfl rfl
    have g3 : DataW.trod enc Tryd.prog w base sp held n 9 [c3] = some y3 := fld (k := 1) 3 hf rfl rfl rfl (by kernel_rfl) rfl rfl
    have g4 : DataW.trod enc Tryd.prog w base sp held n 38 [c4] = some y4 := fld (k := 1) 4 hf rfl rfl rfl (by kernel_rfl) rfl rfl
    rw [weights_agg Tryd.underlying40] at hw
    simp only [List.map_cons, List.map_nil, DataW.weightsEach, List.all_append, Bool.and_eq_true] at hw
    obtain ⟨_, _, _, w3, w4, _⟩ := hw
    obtain ⟨n0, e0, rfl, _⟩ := DataW.trod_int Tryd.underlying3 g0
    obtain ⟨n1, e1, rfl, _⟩ := DataW.trod_int Tryd.underlying3 g1
    obtain ⟨n2, e2, rfl, r2⟩ := DataW.trod_int Tryd.underlying37 g2
    obtain ⟨s, e3, rfl, _⟩ := DataW.trod_string Tryd.underlying9 g3
    obtain ⟨A, l, c, e4, hlc, hC, hok, hb⟩ := open_row k40 OkE (b := 63) (by kernel_rfl) Tryd.underlying38 (by kernel_rfl) g4 w4 (fun m hm cs' y hy hwy => ih m (by omega) cs' y hy hwy)
    cases e0; cases e1; cases e2; cases e3; cases e4
    exact ⟨⟨n0, n1, n2, s, l⟩, k40_mk w ⟨n0, n1, n2, s, l⟩ hlc hC, .mk (wf_u64 r2).1 (wf_u64 r2).2 (w_str w3) hb hok⟩
set_option maxRecDepth 100000 in
theorem open_S : ∀ (fuel : Nat) (cs : List Value) (x : DataW H × List MemPlace), DataW.trod enc Tryd.prog w base sp held fuel 64 cs = some x → (x.1.weights Tryd.prog 64).all (· ≤ reachBytes) = true → ∃ X : S64, k64.K w X cs ∧ OkS X := by
  intro fuel
  induction fuel using Nat.strongRecOn with
  | _ fuel ih =>
    intro cs x h hw
    obtain ⟨xs, n, rfl, rfl, hl, hlen, hf⟩ := DataW.trod_struct Tryd.underlying64 h
    rw [show Tryd.prog.cellsOf 64 = 5 by kernel_rfl] at hl
    match xs, hlen with
    | [y0, y1, y2, y3, y4], _ =>
    match cs, hl with
    | [c0, c1, c2, c3, c4], _ =>
    have g0 : DataW.trod enc Tryd.prog w base sp held n 3 [c0] = some y0 := fld (k := 1) 0 hf rfl rfl rfl (by kernel_rfl) rfl rfl
    have g1 : DataW.trod enc Tryd.prog w base sp held n 9 [c1] = some y1 := fld (k := 1) 1 hf rfl rfl rfl (by kernel_rfl) rfl rfl
    have g2 : DataW.trod enc Tryd.prog w base sp held n 38 [c2] = some y2 := fld (k := 1) 2 hf rfl rfl rfl (by kernel_rfl) rfl rfl
    have g3 : DataW.trod enc Tryd.prog w base sp held n 24 [c3] = some y3 := fld (k := 1) 3 hf rfl rfl rfl (by kernel_rfl) rfl rfl
    have g4 : DataW.trod enc Tryd.prog w base sp held n 24 [c4] = some y4 := fld (k := 1) 4 hf rfl rfl rfl (by kernel_rfl) rfl rfl
    rw [weights_agg Tryd.underlying64] at hw
    simp only [List.map_cons, List.map_nil, DataW.weightsEach, List.all_append, Bool.and_eq_true] at hw
    obtain ⟨_, w1, w2, w3, w4, _⟩ := hw
    obtain ⟨n0, e0, rfl, _⟩ := DataW.trod_int Tryd.underlying3 g0
    obtain ⟨s, e1, rfl, _⟩ := DataW.trod_string Tryd.underlying9 g1
    obtain ⟨A2, l2, c2, e2, hlc2, hC2, hok2, hb2⟩ := open_row k40 OkE (b := 63) (by kernel_rfl) Tryd.underlying38 (by kernel_rfl) g2 w2 (fun m hm cs' y hy hwy => open_E m cs' y hy hwy)
    obtain ⟨A3, l3, c3, e3, hlc3, hC3, hok3, hb3⟩ := open_row k64 OkS (b := 95) (by kernel_rfl) Tryd.underlying24 (by kernel_rfl) g3 w3 (fun m hm cs' y hy hwy => ih m (by omega) cs' y hy hwy)
    obtain ⟨A4, l4, c4, e4, hlc4, hC4, hok4, hb4⟩ := open_row k64 OkS (b := 95) (by kernel_rfl) Tryd.underlying24 (by kernel_rfl) g4 w4 (fun m hm cs' y hy hwy => ih m (by omega) cs' y hy hwy)
    cases e0; cases e1; cases e2; cases e3; cases e4
    exact ⟨⟨n0, s, l2, l3, l4⟩, k64_mk w ⟨n0, s, l2, l3, l4⟩ hlc2 hC2 hlc3 hC3 hlc4 hC4, .mk (w_str w1) hb2 hb3 hb4 hok2 hok3 hok4⟩
def OkI (x : S55) : Prop := x.f0.size ≤ 140737488351232 ∧ (-9223372036854775808 ≤ x.f1 ∧ x.f1 ≤ 9223372036854775807) ∧ (-9223372036854775808 ≤ x.f2 ∧ x.f2 ≤ 9223372036854775807) ∧ (-9223372036854775808 ≤ x.f3 ∧ x.f3 ≤ 9223372036854775807)
def OkA (x : S58) : Prop := x.f0.size ≤ 140737488351232 ∧ (-9223372036854775808 ≤ x.f1 ∧ x.f1 ≤ 9223372036854775807)
set_option maxRecDepth 100000 in
theorem open_I (fuel : Nat) (cs : List Value) (x : DataW H × List MemPlace) (h : DataW.trod enc Tryd.prog w base sp held fuel 55 cs = some x) (hw : (x.1.weights Tryd.prog 55).all (· ≤ reachBytes) = true) : ∃ X : S55, k55.K w X cs ∧ OkI X := by
  obtain ⟨xs, n, rfl, rfl, hl, hlen, hf⟩ := DataW.trod_struct Tryd.underlying55 h
  rw [show Tryd.prog.cellsOf 55 = 4 by kernel_rfl] at hl
  match xs, hlen with
  | [y0, y1, y2, y3], _ =>
  match cs, hl with
  | [c0, c1, c2, c3], _ =>
  have g0 : DataW.trod enc Tryd.prog w base sp held n 9 [c0] = some y0 := fld (k := 1) 0 hf rfl rfl rfl (by kernel_rfl) rfl rfl
  have g1 : DataW.trod enc Tryd.prog w base sp held n 3 [c1] = some y1 := fld (k := 1) 1 hf rfl rfl rfl (by kernel_rfl) rfl rfl
  have g2 : DataW.trod enc Tryd.prog w base sp held n 3 [c2] = some y2 := fld (k := 1) 2 hf rfl rfl rfl (by kernel_rfl) rfl rfl
  have g3 : DataW.trod enc Tryd.prog w base sp held n 3 [c3] = some y3 := fld (k := 1) 3 hf rfl rfl rfl (by kernel_rfl) rfl rfl
  rw [weights_agg Tryd.underlying55] at hw
  simp only [List.map_cons, List.map_nil, DataW.weightsEach, List.all_append, Bool.and_eq_true] at hw
  obtain ⟨w0, _⟩ := hw
  obtain ⟨s, e0, rfl, _⟩ := DataW.trod_string Tryd.underlying9 g0
  obtain ⟨n1, e1, rfl, r1⟩ := DataW.trod_int Tryd.underlying3 g1
  obtain ⟨n2, e2, rfl, r2⟩ := DataW.trod_int Tryd.underlying3 g2
  obtain ⟨n3, e3, rfl, r3⟩ := DataW.trod_int Tryd.underlying3 g3
  cases e0; cases e1; cases e2; cases e3
  exact ⟨⟨s, n1, n2, n3⟩, k55_mk w ⟨s, n1, n2, n3⟩, w_str w0, wf_i64 r1, wf_i64 r2, wf_i64 r3⟩
set_option maxRecDepth 100000 in
theorem open_A (fuel : Nat) (cs : List Value) (x : DataW H × List MemPlace) (h : DataW.trod enc Tryd.prog w base sp held fuel 58 cs = some x) (hw : (x.1.weights Tryd.prog 58).all (· ≤ reachBytes) = true) : ∃ X : S58, k58.K w X cs ∧ OkA X := by
  obtain ⟨xs, n, rfl, rfl, hl, hlen, hf⟩ := DataW.trod_struct Tryd.underlying58 h
  rw [show Tryd.prog.cellsOf 58 = 2 by kernel_rfl] at hl
  match xs, hlen with
  | [y0, y1], _ =>
  match cs, hl with
  | [c0, c1], _ =>
  have g0 : DataW.trod enc Tryd.prog w base sp held n 9 [c0] = some y0 := fld (k := 1) 0 hf rfl rfl rfl (by kernel_rfl) rfl rfl
  have g1 : DataW.trod enc Tryd.prog w base sp held n 3 [c1] = some y1 := fld (k := 1) 1 hf rfl rfl rfl (by kernel_rfl) rfl rfl
  rw [weights_agg Tryd.underlying58] at hw
  simp only [List.map_cons, List.map_nil, DataW.weightsEach, List.all_append, Bool.and_eq_true] at hw
  obtain ⟨w0, _⟩ := hw
  obtain ⟨s, e0, rfl, _⟩ := DataW.trod_string Tryd.underlying9 g0
  obtain ⟨n1, e1, rfl, r1⟩ := DataW.trod_int Tryd.underlying3 g1
  cases e0; cases e1
  exact ⟨⟨s, n1⟩, k58_mk w ⟨s, n1⟩, w_str w0, wf_i64 r1⟩
/-- a program that came in -/
structure ProgAt (w : World) (v : Value) (A0 : Option Addr) (c0 : Nat) (l0 : List S55) (A1 : Option Addr) (c1 : Nat) (l1 : List S58) (A2 : Option Addr) (c2 : Nat) (l2 : List S64) : Prop where
  v : v = .agg #[.slice A0 l0.length c0, .slice A1 l1.length c1, .slice A2 l2.length c2]
  h0 : Kd.C k55 w A0 l0.length l0
  g0 : l0.length ≤ c0
  o0 : ∀ x ∈ l0, OkI x
  n0 : l0.length ≤ 140737488351232
  h1 : Kd.C k58 w A1 l1.length l1
  g1 : l1.length ≤ c1
  o1 : ∀ x ∈ l1, OkA x
  n1 : l1.length ≤ 140737488351232
  h2 : Kd.C k64 w A2 l2.length l2
  g2 : l2.length ≤ c2
  o2 : ∀ x ∈ l2, OkS x
  n2 : l2.length ≤ 140737488351232
set_option maxRecDepth 100000 in
theorem open_P {v : Value} {d : DataW H} {p : List MemPlace} (h : DataW.Trod enc Tryd.prog w base sp held 26 v d p) (hw : (d.weights Tryd.prog 26).all (· ≤ reachBytes) = true) :
    ∃ A0 c0 l0 A1 c1 l1 A2 c2 l2, ProgAt w v A0 c0 l0 A1 c1 l1 A2 c2 l2 := by
  obtain ⟨fuel, h⟩ := h
  obtain ⟨xs, n, rfl, hx, hl, hlen, hf⟩ := DataW.trod_struct Tryd.underlying26 h
  rw [show Tryd.prog.cellsOf 26 = 3 by kernel_rfl] at hl
  obtain ⟨arr, rfl⟩ : ∃ arr, v = .agg arr := by
    cases v <;> first | exact ⟨_, rfl⟩ | (exfalso; simp [Value.cells] at hl)
  obtain ⟨c0, c1, c2, hcs⟩ : ∃ c0 c1 c2, (Value.agg arr).cells.toList = [c0, c1, c2] := by
    match hq : (Value.agg arr).cells.toList, hl with
    | [c0, c1, c2], _ => exact ⟨c0, c1, c2, rfl⟩
  rw [hcs] at hf
  match xs, hlen with
  | [y0, y1, y2], _ =>
  cases hx
  have k0 : DataW.trod enc Tryd.prog w base sp held n 22 [c0] = some y0 := fld (k := 1) 0 hf rfl rfl rfl (by kernel_rfl) rfl rfl
  have k1 : DataW.trod enc Tryd.prog w base sp held n 23 [c1] = some y1 := fld (k := 1) 1 hf rfl rfl rfl (by kernel_rfl) rfl rfl
  have k2 : DataW.trod enc Tryd.prog w base sp held n 24 [c2] = some y2 := fld (k := 1) 2 hf rfl rfl rfl (by kernel_rfl) rfl rfl
  rw [weights_agg Tryd.underlying26] at hw
  simp only [List.map_cons, List.map_nil, DataW.weightsEach, List.all_append, Bool.and_eq_true] at hw
  obtain ⟨w0, w1, w2, _⟩ := hw
  obtain ⟨A0, l0, q0, e0, a0, b0, d0, f0⟩ := open_row k55 OkI (b := 39) (by kernel_rfl) Tryd.underlying22 (by kernel_rfl) k0 w0 (fun m hm cs' y hy hwy => open_I m cs' y hy hwy)
  obtain ⟨A1, l1, q1, e1, a1, b1, d1, f1⟩ := open_row k58 OkA (b := 23) (by kernel_rfl) Tryd.underlying23 (by kernel_rfl) k1 w1 (fun m hm cs' y hy hwy => open_A m cs' y hy hwy)
  obtain ⟨A2, l2, q2, e2, a2, b2, d2, f2⟩ := open_row k64 OkS (b := 95) (by kernel_rfl) Tryd.underlying24 (by kernel_rfl) k2 w2 (fun m hm cs' y hy hwy => open_S m cs' y hy hwy)
  cases e0; cases e1; cases e2
  refine ⟨A0, q0, l0, A1, q1, l1, A2, q2, l2, ?_, b0, a0, d0, f0, b1, a1, d1, f1, b2, a2, d2, f2⟩
  have : arr.toList = [.slice A0 l0.length q0, .slice A1 l1.length q1, .slice A2 l2.length q2] := hcs
  rw [← this]
end
end Go.Proofs.YtlhnfgnihakcfaaDoor.Ax
