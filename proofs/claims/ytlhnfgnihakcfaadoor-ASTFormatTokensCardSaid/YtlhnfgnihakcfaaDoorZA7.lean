import Derived.Test.YtlhnfgnihakcfaaDoorZA3
import Derived.Test.YtlhnfgnihakcfaaDoorZPr
import Derived.Test.YtlhnfgnihakcfaaDoorZA4
import Derived.Test.YtlhnfgnihakcfaaDoorZA5
set_option linter.unusedSimpArgs false
set_option linter.unusedVariables false
namespace Go.Proofs.YtlhnfgnihakcfaaDoor.Ax
open Go.RowKit Hp Kn Lx
open Go.Proofs.YtlhnfgnihakcfaaDoorW.PrintWords Go.Proofs.YtlhnfgnihakcfaaDoorW.PrintLast Go.Proofs.YtlhnfgnihakcfaaDoorW.PrintMore
def dg (u : Nat) : ByteArray := ⟨#[UInt8.ofNat (48 + u % 10)]⟩
def pre (u : Nat) : ByteArray := if u < 10 then ⟨#[]⟩ else dec (u / 10)
theorem dec_pre (u : Nat) : dec u = pre u ++ dg u := by
  unfold pre dg dec
  rw [Lib.decDigits]
  split
  · rename_i h
    rw [Nat.mod_eq_of_lt h]
    rfl
  · apply ByteArray.ext
    simp
theorem dg_nums (u : Nat) (h : u < 18446744073709551616) : strOfNums ([(IntKind.u64.wrap (48 + (Int.tmod (u : Int) 10))) % 256] : List Int) = dg u := by
  have e1 : Int.tmod (u : Int) 10 = ((u % 10 : Nat) : Int) := by rw [Int.tmod_eq_emod_of_nonneg (by omega)]; omega
  have e2 : IntKind.u64.wrap (48 + ((u % 10 : Nat) : Int)) = ((48 + u % 10 : Nat) : Int) := by rw [IntKind.wrap_u64]; omega
  rw [e1, e2]
  have e3 : ((48 + u % 10 : Nat) : Int) % 256 = ((48 + u % 10 : Nat) : Int) := by omega
  rw [e3]
  rfl
theorem fd_loop : ∀ (k m : Nat) (t : ByteArray), m < 10 ^ k → m < 18446744073709551616 → t.size + k ≤ 1000 → Pr.privityref03_FormatDecimal.l0 (k + 1) (m : Int) t = some (pre m ++ t)
  | 0, m, t, hm, h64, ht => by
    unfold Pr.privityref03_FormatDecimal.l0
    rw [if_neg (by simp at hm; omega)]
    have : pre m = ⟨#[]⟩ := by unfold pre; rw [if_pos (by simp at hm; omega)]
    rw [this]
    congr 1 <;> (apply ByteArray.ext; simp)
  | k + 1, m, t, hm, h64, ht => by
    unfold Pr.privityref03_FormatDecimal.l0
    by_cases h10 : m < 10
    · rw [if_neg (by omega)]
      have : pre m = ⟨#[]⟩ := by unfold pre; rw [if_pos h10]
      rw [this]
      congr 1 <;> (apply ByteArray.ext; simp)
    · rw [if_pos (by omega)]
      have e1 : Int.tdiv (m : Int) 10 = ((m / 10 : Nat) : Int) := by rw [Int.tdiv_eq_ediv_of_nonneg (by omega)]; omega
      have e2 : IntKind.u64.wrap ((m / 10 : Nat) : Int) = ((m / 10 : Nat) : Int) := by rw [IntKind.wrap_u64]; omega
      rw [e1, e2, Option.bind_some, dg_nums _ (by omega)]
      have hd : (dg (m / 10)).size = 1 := rfl
      rw [if_pos (by omega)]
      have IH := fd_loop k (m / 10) (dg (m / 10) ++ t) (by rw [Nat.pow_succ] at hm; omega) (by omega) (by rw [ByteArray.size_append, hd]; omega)
      rw [IH]
      have : pre m = dec (m / 10) := by unfold pre; rw [if_neg h10]
      rw [this, dec_pre (m / 10)]
      congr 1 <;> (apply ByteArray.ext; simp)
theorem fd_f (u : Nat) (h : u < 18446744073709551616) : Pr.privityref03_FormatDecimal.f 21 (u : Int) = some (dec u) := by
  unfold Pr.privityref03_FormatDecimal.f
  have hp : (10 : Nat) ^ 20 = 100000000000000000000 := by decide
  rw [dg_nums u h, fd_loop 20 u (dg u) (by omega) h (by show 1 + 20 ≤ 1000; decide), ← dec_pre]
theorem rdecimal_int (z : Int) (h0 : 0 ≤ z) (h1 : z < 18446744073709551616) (w : World) :
    Calls Tryd.prog 67 #[.int .u64 z] w fun e w' => e = .returned (.string (dec z.toNat)) ∧ Below w.heap.size w w' := by
  obtain ⟨u, rfl⟩ : ∃ u : Nat, z = u := ⟨z.toNat, by omega⟩
  exact Pr.privityref03_FormatDecimal.calls 21 (u : Int) _ w (fd_f u (by omega))
theorem prec_f (x : S40) (h4 : x.f0 = 4 → 1 ≤ x.f1 ∧ x.f1 ≤ 7) : Pr.privityref27_precedence.f x.f0 x.f1 x.f2 x.f3 x.f4 = some (strengthF x) := by
  unfold Pr.privityref27_precedence.f strengthF
  by_cases e6 : x.f0 = 6
  · rw [if_pos e6, if_pos e6]
  rw [if_neg e6, if_neg e6]
  by_cases e5 : x.f0 = 5
  · rw [if_pos e5, if_neg (by omega), if_pos e5]
  rw [if_neg e5]
  by_cases e4 : x.f0 = 4
  · rw [if_pos e4, if_pos e4]
    obtain ⟨a, b⟩ := h4 e4
    have : x.f1 = 1 ∨ x.f1 = 2 ∨ x.f1 = 3 ∨ x.f1 = 4 ∨ x.f1 = 5 ∨ x.f1 = 6 ∨ x.f1 = 7 := by omega
    rcases this with h | h | h | h | h | h | h <;> rw [h] <;> rfl
  · rw [if_neg e4, if_neg e4, if_neg e5]
theorem sign_f1 : Pr.privityref27_operatorSign.f 1 = some (signL.getD (Int.toNat 1) ⟨#[]⟩) := by kernel_rfl
theorem sign_f2 : Pr.privityref27_operatorSign.f 2 = some (signL.getD (Int.toNat 2) ⟨#[]⟩) := by kernel_rfl
theorem sign_f3 : Pr.privityref27_operatorSign.f 3 = some (signL.getD (Int.toNat 3) ⟨#[]⟩) := by kernel_rfl
theorem sign_f4 : Pr.privityref27_operatorSign.f 4 = some (signL.getD (Int.toNat 4) ⟨#[]⟩) := by kernel_rfl
theorem sign_f5 : Pr.privityref27_operatorSign.f 5 = some (signL.getD (Int.toNat 5) ⟨#[]⟩) := by kernel_rfl
theorem sign_f6 : Pr.privityref27_operatorSign.f 6 = some (signL.getD (Int.toNat 6) ⟨#[]⟩) := by kernel_rfl
theorem sign_f7 : Pr.privityref27_operatorSign.f 7 = some (signL.getD (Int.toNat 7) ⟨#[]⟩) := by kernel_rfl
theorem sign_f (j : Int) (h0 : 1 ≤ j) (h1 : j ≤ 7) : Pr.privityref27_operatorSign.f j = some (signL.getD j.toNat ⟨#[]⟩) := by
  have : j = 1 ∨ j = 2 ∨ j = 3 ∨ j = 4 ∨ j = 5 ∨ j = 6 ∨ j = 7 := by omega
  rcases this with h | h | h | h | h | h | h <;> subst h <;> first | exact sign_f1 | exact sign_f2 | exact sign_f3 | exact sign_f4 | exact sign_f5 | exact sign_f6 | exact sign_f7
def RIt (y : S40) (t : ByteArray) : Prop := ∀ (A4 : Option Addr) (c4 : Nat) (w1 : World), Gx w1 → Kd.C k40 w1 A4 y.f4.length y.f4 → y.f4.length ≤ c4 → Calls Tryd.prog 68 #[exV A4 c4 y] w1 fun e w2 => e = .returned (.string t) ∧ Below w1.heap.size w1 w2
def RIh (y : S40) (least : Int) (t : ByteArray) : Prop := ∀ (A4 : Option Addr) (c4 : Nat) (w1 : World), Gx w1 → Kd.C k40 w1 A4 y.f4.length y.f4 → y.f4.length ≤ c4 → Calls Tryd.prog 89 #[exV A4 c4 y, .int .i64 least] w1 fun e w2 => e = .returned (.string t) ∧ Below w1.heap.size w1 w2
set_option maxRecDepth 100000 in
theorem rheld_calls_ (x : S40) (least : Int) (t : ByteArray) (ht : t.size ≤ 100000000000000) (IH : RIt x t) (h4 : x.f0 = 4 → 1 ≤ x.f1 ∧ x.f1 ≤ 7) : RIh x least (wrapT (decide (strengthF x < least)) t) := by
  intro A c w hG hC hc
  have HG := Lib.hid hG
  have HC := Lib.hid hC
  have HI := Lib.hid IH
  have H4 := Lib.hid h4
  have HB := Lib.hid ((Below.refl w.heap.size w).alloc (Nat.le_refl _) (.cells #[.int .i64 x.f0, .int .i64 x.f1, .int .u64 x.f2, .string x.f3, .slice A x.f4.length c] 40))
  have HT := Lib.hid (TCells.new w x A c)
  have z1 : ByteArray.size ⟨#[40]⟩ = 1 := rfl
  have z2 : ByteArray.size ⟨#[41]⟩ = 1 := rfl
  clear hG hC IH h4
  go_enter Tryd.func89, Tryd.ntmps89
  unfold exV
  go_wp2_with fail
  refine (Pr.privityref27_precedence.calls x.f0 x.f1 x.f2 x.f3 A c x.f4 _ _ (Kd.C_below HC.out HB.out) hc (prec_f x H4.out)).mono ?_
  rintro e w2 ⟨rfl, hb2⟩
  have HT2 := Lib.hid (HT.out.below hb2)
  have hb3 := below_next HB.out (by simp) hb2
  clear hb2
  obtain ⟨s0, s1, s2, s3, s4⟩ := HT2.out
  cases hd : decide (strengthF x < least) with
  | true =>
    go_wp2_with fail
    refine (HI.out A c _ (HG.out.below hb3) (Kd.C_below HC.out hb3) hc).mono ?_
    rintro e w4 ⟨rfl, hb4⟩
    have hb5 := below_next hb3 (Nat.le_refl _) hb4
    clear hb3 hb4 s0 s1 s2 s3 s4
    go_wp2_with fail
    go_ret
    exact ⟨by rw [hd]; rfl, hb5⟩
  | false =>
    go_wp2_with fail
    refine (HI.out A c _ (HG.out.below hb3) (Kd.C_below HC.out hb3) hc).mono ?_
    rintro e w4 ⟨rfl, hb4⟩
    have hb5 := below_next hb3 (Nat.le_refl _) hb4
    clear hb3 hb4 s0 s1 s2 s3 s4
    go_wp2_with fail
    go_ret
    exact ⟨by rw [hd]; rfl, hb5⟩
set_option maxRecDepth 100000 in
set_option maxHeartbeats 2000000 in
theorem rtext_one (x : S40) (A : Option Addr) (c : Nat) (w : World) (hG : Gx w) (hC : Kd.C k40 w A x.f4.length x.f4) (hc : x.f4.length ≤ c) (hf : x.f0 = 1) (hu : 0 ≤ x.f2) (hu64 : x.f2 < 18446744073709551616) :
    Calls Tryd.prog 68 #[exV A c x] w fun e w' => e = .returned (.string (dec x.f2.toNat)) ∧ Below w.heap.size w w' := by
  have HG := Lib.hid hG
  have HF := Lib.hid hf
  have e1 : (x.f0 == 1) = true := by rw [HF.out]; rfl
  have HB := Lib.hid ((Below.refl w.heap.size w).alloc (Nat.le_refl _) (.cells #[.int .i64 x.f0, .int .i64 x.f1, .int .u64 x.f2, .string x.f3, .slice A x.f4.length c] 40))
  clear hG hf hC hc
  go_enter Tryd.func68, Tryd.ntmps68
  unfold exV
  go_wp2_with fail
  refine (rdecimal_int x.f2 hu hu64 _).mono ?_
  rintro e w2 ⟨rfl, hb2⟩
  have hb3 := below_next HB.out (by simp) hb2
  go_wp2_with fail
  go_ret
  exact ⟨rfl, hb3⟩
set_option maxRecDepth 100000 in
set_option maxHeartbeats 2000000 in
theorem rtext_two (x : S40) (A : Option Addr) (c : Nat) (w : World) (hG : Gx w) (hC : Kd.C k40 w A x.f4.length x.f4) (hc : x.f4.length ≤ c) (hf : x.f0 = 2)  :
    Calls Tryd.prog 68 #[exV A c x] w fun e w' => e = .returned (.string (x.f3)) ∧ Below w.heap.size w w' := by
  have HG := Lib.hid hG
  have HF := Lib.hid hf
  have e1 : (x.f0 == 1) = false := by rw [HF.out]; rfl
  have e2 : (x.f0 == 2) = true := by rw [HF.out]; rfl
  have HB := Lib.hid ((Below.refl w.heap.size w).alloc (Nat.le_refl _) (.cells #[.int .i64 x.f0, .int .i64 x.f1, .int .u64 x.f2, .string x.f3, .slice A x.f4.length c] 40))
  clear hG hf hC hc
  go_enter Tryd.func68, Tryd.ntmps68
  unfold exV
  go_wp2_with fail
  go_ret
  exact ⟨rfl, HB.out⟩
set_option maxRecDepth 100000 in
set_option maxHeartbeats 2000000 in
theorem rtext_three (x : S40) (y : S40) (yt : ByteArray) (A : Option Addr) (c : Nat) (w : World) (hG : Gx w) (hC : Kd.C k40 w A x.f4.length x.f4) (hc : x.f4.length ≤ c) (hf : x.f0 = 3) (ky : x.f4[0]? = some y) (Iy : RIt y yt) (yz : yt.size ≤ 100000000000000) (hz : x.f3.size ≤ 100000000000000) :
    Calls Tryd.prog 68 #[exV A c x] w fun e w' => e = .returned (.string (x.f3 ++ ⟨#[91]⟩ ++ yt ++ ⟨#[93]⟩)) ∧ Below w.heap.size w w' := by
  have HG := Lib.hid hG
  have HF := Lib.hid hf
  have e1 : (x.f0 == 1) = false := by rw [HF.out]; rfl
  have e2 : (x.f0 == 2) = false := by rw [HF.out]; rfl
  have e3 : (x.f0 == 3) = true := by rw [HF.out]; rfl
  obtain ⟨ad, rfl⟩ := some_addr hC (List.getElem?_eq_some_iff.1 ky).1
  have HB := Lib.hid ((Below.refl w.heap.size w).alloc (Nat.le_refl _) (.cells #[.int .i64 x.f0, .int .i64 x.f1, .int .u64 x.f2, .string x.f3, .slice (some ad) x.f4.length c] 40))
  have HT := Lib.hid (TCells.new w x (some ad) c)
  have hC2 := Kd.C_below hC HB.out
  obtain ⟨yA, yc, yE, yl, yC⟩ := kid_at hC2 0 ky
  have ly := (List.getElem?_eq_some_iff.1 ky).1
  have yL := Lib.hid (And.intro yl yC)
  have yI := Lib.hid Iy
  rw [add_zero] at yE
  clear hG hf hC hC2 yl yC ky Iy
  go_enter Tryd.func68, Tryd.ntmps68
  unfold exV
  go_wp2_with fail
  have hS : (fun W => TCells w.heap.size x (some ad) c W ∧ ECells ad y yA yc W) (w.alloc (.cells #[.int .i64 x.f0, .int .i64 x.f1, .int .u64 x.f2, .string x.f3, .slice (some ad) x.f4.length c] 40)).drew := ⟨HT.out, yE⟩
  clear yE HT
  refine Rg.region_steps (S := (fun W => TCells w.heap.size x (some ad) c W ∧ ECells ad y yA yc W)) [.any 0, .take 1, .any 2, .any 3, .take 4, .any 5, .take 6, .one 7, .any 8, .any 9, .any 10] (by kernel_rfl) (by kernel_rfl) hS ?_
  refine Rg.p 17 ?_ ?_ rfl rfl (fun _ _ _ h => h) (by rfl) ?_ ?_ ?_; rotate_left 2; (intro w'; go_simp; with_reducible rfl); (simp only [Rg.pq, Rg.pz, Rg.ps]; rfl)
  refine Rg.t 18 ?_ ?_ rfl rfl (fun _ _ _ h => h) (by assumption) (by rfl) ?_ ?_ ?_; rotate_left 2; (rintro w' ⟨⟨s0, s1, s2, s3, s4⟩, ⟨y0, y1, y2, y3, y4⟩⟩; go_simp; with_reducible rfl); (simp only [Rg.pq, Rg.pz, Rg.ps]; rfl)
  refine Rg.p 19 ?_ ?_ rfl rfl (fun _ _ _ h => h) (by rfl) ?_ ?_ ?_; rotate_left 2; (focus (intro w'; apply add_run; exact rfl; exact rfl; exact rfl; all_goals (first | (with_reducible rfl) | omega | (simp only [ByteArray.size_append, lit1, lit3]; omega)))); (simp only [Rg.pq, Rg.pz, Rg.ps]; rfl)
  refine Rg.p 20 ?_ ?_ rfl rfl (fun _ _ _ h => h) (by rfl) ?_ ?_ ?_; rotate_left 2; (intro w'; go_simp; with_reducible rfl); (simp only [Rg.pq, Rg.pz, Rg.ps]; rfl)
  refine Rg.t 21 ?_ ?_ rfl rfl (fun _ _ _ h => h) (by assumption) (by rfl) ?_ ?_ ?_; rotate_left 2; (rintro w' ⟨⟨s0, s1, s2, s3, s4⟩, ⟨y0, y1, y2, y3, y4⟩⟩; go_simp; with_reducible rfl); (simp only [Rg.pq, Rg.pz, Rg.ps]; rfl)
  refine Rg.p 22 ?_ ?_ rfl rfl (fun _ _ _ h => h) (by rfl) ?_ ?_ ?_; rotate_left 2; (intro w'; go_simp; with_reducible rfl); (simp only [Rg.pq, Rg.pz, Rg.ps]; rfl)
  refine Rg.t 23 ?_ ?_ rfl rfl (fun _ _ _ h => h) (by assumption) (by rfl) ?_ ?_ ?_; rotate_left 2; (rintro w' ⟨⟨s0, s1, s2, s3, s4⟩, ⟨y0, y1, y2, y3, y4⟩⟩; go_simp; with_reducible rfl); (simp only [Rg.pq, Rg.pz, Rg.ps]; rfl)
  refine Rg.s_call (N := some 24) rfl rfl Tryd.func68 (by kernel_rfl) rfl #[.agg #[.int .i64 y.f0, .int .i64 y.f1, .int .u64 y.f2, .string y.f3, .slice yA y.f4.length yc]] (by rfl) rfl (by (try simp only [List.map_toArray, List.map_cons, List.map_nil]); first | done | rfl) ?_
  refine (yI.out yA yc _ (HG.out.below HB.out.drew) (Kd.C_below yL.out.2 (Below.refl _ _).drew) yL.out.1).mono ?_
  rintro e w2 ⟨rfl, hb2⟩
  have hS2 := And.intro (hS.1.below hb2) (hS.2.below hb2)
  have hb3 := below_next HB.out.drew (by simp) hb2
  clear hS hb2
  refine ⟨hS2, ?_⟩
  refine Rg.s_norm (a' := ?_) ?_ ?_; rotate_left; (simp only [Act.put, List.setIfInBounds_toArray, List.set_cons_zero, List.set_cons_succ]; rfl)
  refine Rg.p 25 ?_ ?_ rfl rfl (fun _ _ _ h => h) (by rfl) ?_ ?_ ?_; rotate_left 2; (focus (intro w'; apply add_run; exact rfl; exact rfl; exact rfl; all_goals (first | (with_reducible rfl) | omega | (simp only [ByteArray.size_append, lit1, lit3]; omega)))); (simp only [Rg.pq, Rg.pz, Rg.ps]; rfl)
  refine Rg.p 26 ?_ ?_ rfl rfl (fun _ _ _ h => h) (by rfl) ?_ ?_ ?_; rotate_left 2; (focus (intro w'; apply add_run; exact rfl; exact rfl; exact rfl; all_goals (first | (with_reducible rfl) | omega | (simp only [ByteArray.size_append, lit1, lit3]; omega)))); (simp only [Rg.pq, Rg.pz, Rg.ps]; rfl)
  refine Rg.p 2 ?_ ?_ rfl rfl (fun _ _ _ h => h) (by rfl) ?_ ?_ ?_; rotate_left 2; (intro w'; go_simp; with_reducible rfl); (simp only [Rg.pq, Rg.pz, Rg.ps]; rfl)
  refine Rg.s_done ?_
  go_wp2_with fail
  go_ret
  exact ⟨rfl, hb3⟩
set_option maxRecDepth 100000 in
set_option maxHeartbeats 2000000 in
theorem rtext_five (x : S40) (y : S40) (yt : ByteArray) (A : Option Addr) (c : Nat) (w : World) (hG : Gx w) (hC : Kd.C k40 w A x.f4.length x.f4) (hc : x.f4.length ≤ c) (hf : x.f0 = 5) (ky : x.f4[0]? = some y) (Iy : RIh y 8 yt) (yz : yt.size ≤ 100000000000000) :
    Calls Tryd.prog 68 #[exV A c x] w fun e w' => e = .returned (.string (⟨#[33]⟩ ++ yt)) ∧ Below w.heap.size w w' := by
  have HG := Lib.hid hG
  have HF := Lib.hid hf
  have e1 : (x.f0 == 1) = false := by rw [HF.out]; rfl
  have e2 : (x.f0 == 2) = false := by rw [HF.out]; rfl
  have e3 : (x.f0 == 3) = false := by rw [HF.out]; rfl
  have e5 : (x.f0 == 5) = true := by rw [HF.out]; rfl
  obtain ⟨ad, rfl⟩ := some_addr hC (List.getElem?_eq_some_iff.1 ky).1
  have HB := Lib.hid ((Below.refl w.heap.size w).alloc (Nat.le_refl _) (.cells #[.int .i64 x.f0, .int .i64 x.f1, .int .u64 x.f2, .string x.f3, .slice (some ad) x.f4.length c] 40))
  have HT := Lib.hid (TCells.new w x (some ad) c)
  have hC2 := Kd.C_below hC HB.out
  obtain ⟨yA, yc, yE, yl, yC⟩ := kid_at hC2 0 ky
  have ly := (List.getElem?_eq_some_iff.1 ky).1
  have yL := Lib.hid (And.intro yl yC)
  have yI := Lib.hid Iy
  rw [add_zero] at yE
  clear hG hf hC hC2 yl yC ky Iy
  go_enter Tryd.func68, Tryd.ntmps68
  unfold exV
  obtain ⟨y0, y1, y2, y3, y4⟩ := yE
  go_wp2_with fail
  refine (yI.out yA yc _ (HG.out.below HB.out) yL.out.2 yL.out.1).mono ?_
  rintro e w2 ⟨rfl, hb2⟩
  have hb3 := below_next HB.out (by simp) hb2
  have z1 : ByteArray.size ⟨#[33]⟩ = 1 := rfl
  go_wp2_with fail
  go_ret
  exact ⟨rfl, hb3⟩
set_option maxRecDepth 100000 in
set_option maxHeartbeats 2000000 in
theorem rtext_six (x : S40) (y : S40) (yt : ByteArray) (u : S40) (ut : ByteArray) (v : S40) (vt : ByteArray) (A : Option Addr) (c : Nat) (w : World) (hG : Gx w) (hC : Kd.C k40 w A x.f4.length x.f4) (hc : x.f4.length ≤ c) (hf : x.f0 = 6) (ky : x.f4[0]? = some y) (Iy : RIh y 2 yt) (yz : yt.size ≤ 100000000000000) (ku : x.f4[1]? = some u) (Iu : RIt u ut) (uz : ut.size ≤ 100000000000000) (kv : x.f4[2]? = some v) (Iv : RIt v vt) (vz : vt.size ≤ 100000000000000) :
    Calls Tryd.prog 68 #[exV A c x] w fun e w' => e = .returned (.string (yt ++ ⟨#[32, 63, 32]⟩ ++ ut ++ ⟨#[32, 58, 32]⟩ ++ vt)) ∧ Below w.heap.size w w' := by
  have HG := Lib.hid hG
  have HF := Lib.hid hf
  have e1 : (x.f0 == 1) = false := by rw [HF.out]; rfl
  have e2 : (x.f0 == 2) = false := by rw [HF.out]; rfl
  have e3 : (x.f0 == 3) = false := by rw [HF.out]; rfl
  have e5 : (x.f0 == 5) = false := by rw [HF.out]; rfl
  have e6 : (x.f0 == 6) = true := by rw [HF.out]; rfl
  obtain ⟨ad, rfl⟩ := some_addr hC (List.getElem?_eq_some_iff.1 ky).1
  have HB := Lib.hid ((Below.refl w.heap.size w).alloc (Nat.le_refl _) (.cells #[.int .i64 x.f0, .int .i64 x.f1, .int .u64 x.f2, .string x.f3, .slice (some ad) x.f4.length c] 40))
  have HT := Lib.hid (TCells.new w x (some ad) c)
  have hC2 := Kd.C_below hC HB.out
  obtain ⟨yA, yc, yE, yl, yC⟩ := kid_at hC2 0 ky
  have ly := (List.getElem?_eq_some_iff.1 ky).1
  have yL := Lib.hid (And.intro yl yC)
  have yI := Lib.hid Iy
  rw [add_zero] at yE
  obtain ⟨uA, uc, uE, ul, uC⟩ := kid_at hC2 1 ku
  have lu := (List.getElem?_eq_some_iff.1 ku).1
  have uL := Lib.hid (And.intro ul uC)
  have uI := Lib.hid Iu
  have uE : ECells ⟨ad.block, ad.off + 5, none⟩ u uA uc _ := uE
  have mu : (1 : Int) < (x.f4.length : Int) := by omega
  obtain ⟨vA, vc, vE, vl, vC⟩ := kid_at hC2 2 kv
  have lv := (List.getElem?_eq_some_iff.1 kv).1
  have vL := Lib.hid (And.intro vl vC)
  have vI := Lib.hid Iv
  have vE : ECells ⟨ad.block, ad.off + 10, none⟩ v vA vc _ := vE
  have mv : (2 : Int) < (x.f4.length : Int) := by omega
  clear hG hf hC hC2 yl yC ky Iy ul uC ku Iu vl vC kv Iv
  go_enter Tryd.func68, Tryd.ntmps68
  unfold exV
  go_wp2_with fail
  have hS : (fun W => TCells w.heap.size x (some ad) c W ∧ ECells ad y yA yc W ∧ ECells ⟨ad.block, ad.off + 5, none⟩ u uA uc W ∧ ECells ⟨ad.block, ad.off + 10, none⟩ v vA vc W) (w.alloc (.cells #[.int .i64 x.f0, .int .i64 x.f1, .int .u64 x.f2, .string x.f3, .slice (some ad) x.f4.length c] 40)).drew := ⟨HT.out, yE, uE, vE⟩
  clear yE uE vE HT
  refine Rg.region_steps (S := (fun W => TCells w.heap.size x (some ad) c W ∧ ECells ad y yA yc W ∧ ECells ⟨ad.block, ad.off + 5, none⟩ u uA uc W ∧ ECells ⟨ad.block, ad.off + 10, none⟩ v vA vc W)) [.any 0, .take 1, .any 2, .take 3, .any 6, .take 7, .any 8, .take 9, .any 13, .take 14, .any 15, .take 16, .one 4, .any 5, .one 10, .any 11, .any 12, .one 17, .any 18, .any 19] (by kernel_rfl) (by kernel_rfl) hS ?_
  refine Rg.p 37 ?_ ?_ rfl rfl (fun _ _ _ h => h) (by rfl) ?_ ?_ ?_; rotate_left 2; (intro w'; go_simp; with_reducible rfl); (simp only [Rg.pq, Rg.pz, Rg.ps]; rfl)
  refine Rg.t 38 ?_ ?_ rfl rfl (fun _ _ _ h => h) (by assumption) (by rfl) ?_ ?_ ?_; rotate_left 2; (rintro w' ⟨⟨s0, s1, s2, s3, s4⟩, ⟨⟨y0, y1, y2, y3, y4⟩, ⟨⟨u0, u1, u2, u3, u4⟩, ⟨v0, v1, v2, v3, v4⟩⟩⟩⟩; go_simp; with_reducible rfl); (simp only [Rg.pq, Rg.pz, Rg.ps]; rfl)
  refine Rg.p 39 ?_ ?_ rfl rfl (fun _ _ _ h => h) (by rfl) ?_ ?_ ?_; rotate_left 2; (intro w'; go_simp; with_reducible rfl); (simp only [Rg.pq, Rg.pz, Rg.ps]; rfl)
  refine Rg.t 40 ?_ ?_ rfl rfl (fun _ _ _ h => h) (by assumption) (by rfl) ?_ ?_ ?_; rotate_left 2; (rintro w' ⟨⟨s0, s1, s2, s3, s4⟩, ⟨⟨y0, y1, y2, y3, y4⟩, ⟨⟨u0, u1, u2, u3, u4⟩, ⟨v0, v1, v2, v3, v4⟩⟩⟩⟩; go_simp; with_reducible rfl); (simp only [Rg.pq, Rg.pz, Rg.ps]; rfl)
  refine Rg.p 43 ?_ ?_ rfl rfl (fun _ _ _ h => h) (by rfl) ?_ ?_ ?_; rotate_left 2; (intro w'; go_simp; with_reducible rfl); (simp only [Rg.pq, Rg.pz, Rg.ps]; rfl)
  refine Rg.t 44 ?_ ?_ rfl rfl (fun _ _ _ h => h) (by assumption) (by rfl) ?_ ?_ ?_; rotate_left 2; (rintro w' ⟨⟨s0, s1, s2, s3, s4⟩, ⟨⟨y0, y1, y2, y3, y4⟩, ⟨⟨u0, u1, u2, u3, u4⟩, ⟨v0, v1, v2, v3, v4⟩⟩⟩⟩; go_simp; with_reducible rfl); (simp only [Rg.pq, Rg.pz, Rg.ps]; rfl)
  refine Rg.p 45 ?_ ?_ rfl rfl (fun _ _ _ h => h) (by rfl) ?_ ?_ ?_; rotate_left 2; (intro w'; go_simp; with_reducible rfl); (simp only [Rg.pq, Rg.pz, Rg.ps]; rfl)
  refine Rg.t 46 ?_ ?_ rfl rfl (fun _ _ _ h => h) (by assumption) (by rfl) ?_ ?_ ?_; rotate_left 2; (rintro w' ⟨⟨s0, s1, s2, s3, s4⟩, ⟨⟨y0, y1, y2, y3, y4⟩, ⟨⟨u0, u1, u2, u3, u4⟩, ⟨v0, v1, v2, v3, v4⟩⟩⟩⟩; go_simp; with_reducible rfl); (simp only [Rg.pq, Rg.pz, Rg.ps]; rfl)
  refine Rg.p 50 ?_ ?_ rfl rfl (fun _ _ _ h => h) (by rfl) ?_ ?_ ?_; rotate_left 2; (intro w'; go_simp; with_reducible rfl); (simp only [Rg.pq, Rg.pz, Rg.ps]; rfl)
  refine Rg.t 51 ?_ ?_ rfl rfl (fun _ _ _ h => h) (by assumption) (by rfl) ?_ ?_ ?_; rotate_left 2; (rintro w' ⟨⟨s0, s1, s2, s3, s4⟩, ⟨⟨y0, y1, y2, y3, y4⟩, ⟨⟨u0, u1, u2, u3, u4⟩, ⟨v0, v1, v2, v3, v4⟩⟩⟩⟩; go_simp; with_reducible rfl); (simp only [Rg.pq, Rg.pz, Rg.ps]; rfl)
  refine Rg.p 52 ?_ ?_ rfl rfl (fun _ _ _ h => h) (by rfl) ?_ ?_ ?_; rotate_left 2; (intro w'; go_simp; with_reducible rfl); (simp only [Rg.pq, Rg.pz, Rg.ps]; rfl)
  refine Rg.t 53 ?_ ?_ rfl rfl (fun _ _ _ h => h) (by assumption) (by rfl) ?_ ?_ ?_; rotate_left 2; (rintro w' ⟨⟨s0, s1, s2, s3, s4⟩, ⟨⟨y0, y1, y2, y3, y4⟩, ⟨⟨u0, u1, u2, u3, u4⟩, ⟨v0, v1, v2, v3, v4⟩⟩⟩⟩; go_simp; with_reducible rfl); (simp only [Rg.pq, Rg.pz, Rg.ps]; rfl)
  refine Rg.s_call (N := some 41) rfl rfl Tryd.func89 (by kernel_rfl) rfl #[.agg #[.int .i64 y.f0, .int .i64 y.f1, .int .u64 y.f2, .string y.f3, .slice yA y.f4.length yc], .int .i64 2] (by rfl) rfl (by (try simp only [List.map_toArray, List.map_cons, List.map_nil]); first | done | rfl) ?_
  refine (yI.out yA yc _ (HG.out.below (HB.out.drew)) (Kd.C_below yL.out.2 (Below.refl _ _).drew) yL.out.1).mono ?_
  rintro e w2 ⟨rfl, hc0⟩
  have hS2 : (fun W => TCells w.heap.size x (some ad) c W ∧ ECells ad y yA yc W ∧ ECells ⟨ad.block, ad.off + 5, none⟩ u uA uc W ∧ ECells ⟨ad.block, ad.off + 10, none⟩ v vA vc W) w2 := ⟨hS.1.below hc0, ⟨hS.2.1.below hc0, ⟨hS.2.2.1.below hc0, hS.2.2.2.below hc0⟩⟩⟩
  have hd1 := below_next (HB.out.drew) (by first | exact Nat.le_refl _ | simp) hc0
  have he1 := below_next ((Below.refl _ _).drew) (Nat.le_refl _) hc0
  clear hS hc0
  refine ⟨hS2, ?_⟩
  refine Rg.s_norm (a' := ?_) ?_ ?_; rotate_left; (simp only [Act.put, List.setIfInBounds_toArray, List.set_cons_zero, List.set_cons_succ]; rfl)
  refine Rg.p 42 ?_ ?_ rfl rfl (fun _ _ _ h => h) (by rfl) ?_ ?_ ?_; rotate_left 2; (focus (intro w'; apply add_run; exact rfl; exact rfl; exact rfl; all_goals (first | (with_reducible rfl) | omega | (simp only [ByteArray.size_append, lit1, lit3]; omega)))); (simp only [Rg.pq, Rg.pz, Rg.ps]; rfl)
  refine Rg.s_call (N := some 47) rfl rfl Tryd.func68 (by kernel_rfl) rfl #[.agg #[.int .i64 u.f0, .int .i64 u.f1, .int .u64 u.f2, .string u.f3, .slice uA u.f4.length uc]] (by rfl) rfl (by (try simp only [List.map_toArray, List.map_cons, List.map_nil]); first | done | rfl) ?_
  refine (uI.out uA uc _ (HG.out.below hd1) (Kd.C_below uL.out.2 (he1)) uL.out.1).mono ?_
  rintro e w3 ⟨rfl, hc1⟩
  have hS3 : (fun W => TCells w.heap.size x (some ad) c W ∧ ECells ad y yA yc W ∧ ECells ⟨ad.block, ad.off + 5, none⟩ u uA uc W ∧ ECells ⟨ad.block, ad.off + 10, none⟩ v vA vc W) w3 := ⟨hS2.1.below hc1, ⟨hS2.2.1.below hc1, ⟨hS2.2.2.1.below hc1, hS2.2.2.2.below hc1⟩⟩⟩
  have hd2 := below_next hd1 (by first | exact Nat.le_refl _ | simp) hc1
  have he2 := below_next he1 (by first | exact Nat.le_refl _ | exact he1.size) hc1
  clear hS2 hc1
  refine ⟨hS3, ?_⟩
  refine Rg.s_norm (a' := ?_) ?_ ?_; rotate_left; (simp only [Act.put, List.setIfInBounds_toArray, List.set_cons_zero, List.set_cons_succ]; rfl)
  refine Rg.p 48 ?_ ?_ rfl rfl (fun _ _ _ h => h) (by rfl) ?_ ?_ ?_; rotate_left 2; (focus (intro w'; apply add_run; exact rfl; exact rfl; exact rfl; all_goals (first | (with_reducible rfl) | omega | (simp only [ByteArray.size_append, lit1, lit3]; omega)))); (simp only [Rg.pq, Rg.pz, Rg.ps]; rfl)
  refine Rg.p 49 ?_ ?_ rfl rfl (fun _ _ _ h => h) (by rfl) ?_ ?_ ?_; rotate_left 2; (focus (intro w'; apply add_run; exact rfl; exact rfl; exact rfl; all_goals (first | (with_reducible rfl) | omega | (simp only [ByteArray.size_append, lit1, lit3]; omega)))); (simp only [Rg.pq, Rg.pz, Rg.ps]; rfl)
  refine Rg.s_call (N := some 54) rfl rfl Tryd.func68 (by kernel_rfl) rfl #[.agg #[.int .i64 v.f0, .int .i64 v.f1, .int .u64 v.f2, .string v.f3, .slice vA v.f4.length vc]] (by rfl) rfl (by (try simp only [List.map_toArray, List.map_cons, List.map_nil]); first | done | rfl) ?_
  refine (vI.out vA vc _ (HG.out.below hd2) (Kd.C_below vL.out.2 (he2)) vL.out.1).mono ?_
  rintro e w4 ⟨rfl, hc2⟩
  have hS4 : (fun W => TCells w.heap.size x (some ad) c W ∧ ECells ad y yA yc W ∧ ECells ⟨ad.block, ad.off + 5, none⟩ u uA uc W ∧ ECells ⟨ad.block, ad.off + 10, none⟩ v vA vc W) w4 := ⟨hS3.1.below hc2, ⟨hS3.2.1.below hc2, ⟨hS3.2.2.1.below hc2, hS3.2.2.2.below hc2⟩⟩⟩
  have hd3 := below_next hd2 (by first | exact Nat.le_refl _ | simp) hc2
  have he3 := below_next he2 (by first | exact Nat.le_refl _ | exact he2.size) hc2
  clear hS3 hc2
  refine ⟨hS4, ?_⟩
  refine Rg.s_norm (a' := ?_) ?_ ?_; rotate_left; (simp only [Act.put, List.setIfInBounds_toArray, List.set_cons_zero, List.set_cons_succ]; rfl)
  refine Rg.p 55 ?_ ?_ rfl rfl (fun _ _ _ h => h) (by rfl) ?_ ?_ ?_; rotate_left 2; (focus (intro w'; apply add_run; exact rfl; exact rfl; exact rfl; all_goals (first | (with_reducible rfl) | omega | (simp only [ByteArray.size_append, lit1, lit3]; omega)))); (simp only [Rg.pq, Rg.pz, Rg.ps]; rfl)
  refine Rg.p 2 ?_ ?_ rfl rfl (fun _ _ _ h => h) (by rfl) ?_ ?_ ?_; rotate_left 2; (intro w'; go_simp; with_reducible rfl); (simp only [Rg.pq, Rg.pz, Rg.ps]; rfl)
  refine Rg.s_done ?_
  go_wp2_with fail
  go_ret
  exact ⟨rfl, hd3⟩
set_option maxRecDepth 100000 in
set_option maxHeartbeats 2000000 in
theorem rtext_four (x : S40) (y : S40) (yt : ByteArray) (u : S40) (ut : ByteArray) (A : Option Addr) (c : Nat) (w : World) (hG : Gx w) (hC : Kd.C k40 w A x.f4.length x.f4) (hc : x.f4.length ≤ c) (hf : x.f0 = 4) (k : Int) (hk : strengthF x = k) (hk0 : 0 ≤ k) (hk1 : k ≤ 100) (sg : ByteArray) (hsg : signL.getD x.f1.toNat ⟨#[]⟩ = sg) (hsz : sg.size ≤ 2) (r0 : 1 ≤ x.f1) (r1 : x.f1 ≤ 7) (ky : x.f4[0]? = some y) (Iy : RIh y k yt) (yz : yt.size ≤ 100000000000000) (ku : x.f4[1]? = some u) (Iu : RIh u (k + 1) ut) (uz : ut.size ≤ 100000000000000) :
    Calls Tryd.prog 68 #[exV A c x] w fun e w' => e = .returned (.string (yt ++ ⟨#[32]⟩ ++ sg ++ ⟨#[32]⟩ ++ ut)) ∧ Below w.heap.size w w' := by
  have HG := Lib.hid hG
  have HF := Lib.hid hf
  have e1 : (x.f0 == 1) = false := by rw [HF.out]; rfl
  have e2 : (x.f0 == 2) = false := by rw [HF.out]; rfl
  have e3 : (x.f0 == 3) = false := by rw [HF.out]; rfl
  have e5 : (x.f0 == 5) = false := by rw [HF.out]; rfl
  have e6 : (x.f0 == 6) = false := by rw [HF.out]; rfl
  obtain ⟨ad, rfl⟩ := some_addr hC (List.getElem?_eq_some_iff.1 ky).1
  have HB := Lib.hid ((Below.refl w.heap.size w).alloc (Nat.le_refl _) (.cells #[.int .i64 x.f0, .int .i64 x.f1, .int .u64 x.f2, .string x.f3, .slice (some ad) x.f4.length c] 40))
  have HT := Lib.hid (TCells.new w x (some ad) c)
  have hC2 := Kd.C_below hC HB.out
  obtain ⟨yA, yc, yE, yl, yC⟩ := kid_at hC2 0 ky
  have ly := (List.getElem?_eq_some_iff.1 ky).1
  have yL := Lib.hid (And.intro yl yC)
  have yI := Lib.hid Iy
  rw [add_zero] at yE
  obtain ⟨uA, uc, uE, ul, uC⟩ := kid_at hC2 1 ku
  have lu := (List.getElem?_eq_some_iff.1 ku).1
  have uL := Lib.hid (And.intro ul uC)
  have uI := Lib.hid Iu
  have uE : ECells ⟨ad.block, ad.off + 5, none⟩ u uA uc _ := uE
  have mu : (1 : Int) < (x.f4.length : Int) := by omega
  have hkw : IntKind.i64.wrap (k + 1) = k + 1 := by rw [IntKind.wrap_i64]; omega
  have HPF := Lib.hid (show Pr.privityref27_precedence.f x.f0 x.f1 x.f2 x.f3 x.f4 = some k by rw [← hk]; exact prec_f x (fun _ => ⟨r0, r1⟩))
  have HSF := Lib.hid (show Pr.privityref27_operatorSign.f x.f1 = some sg by rw [← hsg]; exact sign_f x.f1 r0 r1)
  have HC := Lib.hid hC2
  clear hk hsg
  clear hG hf hC hC2 yl yC ky Iy ul uC ku Iu
  go_enter Tryd.func68, Tryd.ntmps68
  unfold exV
  go_wp2_with fail
  refine (Pr.privityref27_precedence.calls x.f0 x.f1 x.f2 x.f3 (some ad) c x.f4 k _ HC.out hc HPF.out).mono ?_
  rintro e v1 ⟨rfl, hcc⟩
  have hT1 := HT.out.below hcc
  have hY1 := yE.below hcc
  have hU1 := uE.below hcc
  have HB1 := Lib.hid (below_next HB.out (by simp) hcc)
  have yL1 := Lib.hid (And.intro yL.out.1 (Kd.C_below yL.out.2 hcc))
  have uL1 := Lib.hid (And.intro uL.out.1 (Kd.C_below uL.out.2 hcc))
  clear hcc HT yE uE
  have hS : (fun W => TCells w.heap.size x (some ad) c W ∧ ECells ad y yA yc W ∧ ECells ⟨ad.block, ad.off + 5, none⟩ u uA uc W) v1.drew := ⟨hT1, hY1, hU1⟩
  go_wp2_with fail
  clear hT1 hY1 hU1
  refine Rg.region_steps (S := (fun W => TCells w.heap.size x (some ad) c W ∧ ECells ad y yA yc W ∧ ECells ⟨ad.block, ad.off + 5, none⟩ u uA uc W)) [.any 0, .take 1, .any 2, .take 3, .any 4, .any 7, .take 8, .any 12, .take 13, .any 14, .take 15, .any 16, .any 17, .one 5, .any 6, .one 9, .any 10, .any 11, .one 18, .any 19, .any 20] (by kernel_rfl) (by kernel_rfl) hS ?_
  refine Rg.p 58 ?_ ?_ rfl rfl (fun _ _ _ h => h) (by rfl) ?_ ?_ ?_; rotate_left 2; (intro w'; go_simp; with_reducible rfl); (simp only [Rg.pq, Rg.pz, Rg.ps]; rfl)
  refine Rg.t 59 ?_ ?_ rfl rfl (fun _ _ _ h => h) (by assumption) (by rfl) ?_ ?_ ?_; rotate_left 2; (rintro w' ⟨⟨s0, s1, s2, s3, s4⟩, ⟨y0, y1, y2, y3, y4⟩, ⟨u0, u1, u2, u3, u4⟩⟩; go_simp; with_reducible rfl); (simp only [Rg.pq, Rg.pz, Rg.ps]; rfl)
  refine Rg.p 60 ?_ ?_ rfl rfl (fun _ _ _ h => h) (by rfl) ?_ ?_ ?_; rotate_left 2; (intro w'; go_simp; with_reducible rfl); (simp only [Rg.pq, Rg.pz, Rg.ps]; rfl)
  refine Rg.t 61 ?_ ?_ rfl rfl (fun _ _ _ h => h) (by assumption) (by rfl) ?_ ?_ ?_; rotate_left 2; (rintro w' ⟨⟨s0, s1, s2, s3, s4⟩, ⟨y0, y1, y2, y3, y4⟩, ⟨u0, u1, u2, u3, u4⟩⟩; go_simp; with_reducible rfl); (simp only [Rg.pq, Rg.pz, Rg.ps]; rfl)
  refine Rg.p 62 ?_ ?_ rfl rfl (fun _ _ _ h => h) (by rfl) ?_ ?_ ?_; rotate_left 2; (intro w'; go_simp; with_reducible rfl); (simp only [Rg.pq, Rg.pz, Rg.ps]; rfl)
  refine Rg.p 65 ?_ ?_ rfl rfl (fun _ _ _ h => h) (by rfl) ?_ ?_ ?_; rotate_left 2; (intro w'; go_simp; with_reducible rfl); (simp only [Rg.pq, Rg.pz, Rg.ps]; rfl)
  refine Rg.t 66 ?_ ?_ rfl rfl (fun _ _ _ h => h) (by assumption) (by rfl) ?_ ?_ ?_; rotate_left 2; (rintro w' ⟨⟨s0, s1, s2, s3, s4⟩, ⟨y0, y1, y2, y3, y4⟩, ⟨u0, u1, u2, u3, u4⟩⟩; go_simp; with_reducible rfl); (simp only [Rg.pq, Rg.pz, Rg.ps]; rfl)
  refine Rg.p 70 ?_ ?_ rfl rfl (fun _ _ _ h => h) (by rfl) ?_ ?_ ?_; rotate_left 2; (intro w'; go_simp; with_reducible rfl); (simp only [Rg.pq, Rg.pz, Rg.ps]; rfl)
  refine Rg.t 71 ?_ ?_ rfl rfl (fun _ _ _ h => h) (by assumption) (by rfl) ?_ ?_ ?_; rotate_left 2; (rintro w' ⟨⟨s0, s1, s2, s3, s4⟩, ⟨y0, y1, y2, y3, y4⟩, ⟨u0, u1, u2, u3, u4⟩⟩; go_simp; with_reducible rfl); (simp only [Rg.pq, Rg.pz, Rg.ps]; rfl)
  refine Rg.p 72 ?_ ?_ rfl rfl (fun _ _ _ h => h) (by rfl) ?_ ?_ ?_; rotate_left 2; (intro w'; go_simp; with_reducible rfl); (simp only [Rg.pq, Rg.pz, Rg.ps]; rfl)
  refine Rg.t 73 ?_ ?_ rfl rfl (fun _ _ _ h => h) (by assumption) (by rfl) ?_ ?_ ?_; rotate_left 2; (rintro w' ⟨⟨s0, s1, s2, s3, s4⟩, ⟨y0, y1, y2, y3, y4⟩, ⟨u0, u1, u2, u3, u4⟩⟩; go_simp; with_reducible rfl); (simp only [Rg.pq, Rg.pz, Rg.ps]; rfl)
  refine Rg.p 74 ?_ ?_ rfl rfl (fun _ _ _ h => h) (by rfl) ?_ ?_ ?_; rotate_left 2; (intro w'; go_simp; with_reducible rfl); (simp only [Rg.pq, Rg.pz, Rg.ps]; rfl)
  refine Rg.p 75 ?_ ?_ rfl rfl (fun _ _ _ h => h) (by rfl) ?_ ?_ ?_; rotate_left 2; (intro w'; go_simp; with_reducible rfl); (simp only [Rg.pq, Rg.pz, Rg.ps]; rfl)
  refine Rg.s_call (N := some 63) rfl rfl Tryd.func89 (by kernel_rfl) rfl #[.agg #[.int .i64 y.f0, .int .i64 y.f1, .int .u64 y.f2, .string y.f3, .slice yA y.f4.length yc], .int .i64 k] (by rfl) rfl (by (try simp only [List.map_toArray, List.map_cons, List.map_nil]); first | done | rfl) ?_
  refine (yI.out yA yc _ (HG.out.below HB1.out.drew) (Kd.C_below yL1.out.2 (Below.refl _ _).drew) yL1.out.1).mono ?_
  rintro e w2 ⟨rfl, hc0⟩
  have hS2 : (fun W => TCells w.heap.size x (some ad) c W ∧ ECells ad y yA yc W ∧ ECells ⟨ad.block, ad.off + 5, none⟩ u uA uc W) w2 := ⟨hS.1.below hc0, hS.2.1.below hc0, hS.2.2.below hc0⟩
  have hd1 := below_next HB1.out.drew (by simp) hc0
  have he1 := below_next ((Below.refl _ _).drew) (Nat.le_refl _) hc0
  clear hS hc0
  refine ⟨hS2, ?_⟩
  refine Rg.s_norm (a' := ?_) ?_ ?_; rotate_left; (simp only [Act.put, List.setIfInBounds_toArray, List.set_cons_zero, List.set_cons_succ]; rfl)
  refine Rg.p 64 ?_ ?_ rfl rfl (fun _ _ _ h => h) (by rfl) ?_ ?_ ?_; rotate_left 2; (focus (intro w'; apply add_run; exact rfl; exact rfl; exact rfl; all_goals (first | (with_reducible rfl) | omega | (simp only [ByteArray.size_append, lit1, lit3]; omega)))); (simp only [Rg.pq, Rg.pz, Rg.ps]; rfl)
  refine Rg.s_call (N := some 67) rfl rfl Tryd.func91 (by kernel_rfl) rfl #[.int .i64 x.f1] (by rfl) rfl (by (try simp only [List.map_toArray, List.map_cons, List.map_nil]); first | done | rfl) ?_
  refine (Pr.privityref27_operatorSign.calls x.f1 sg _ HSF.out).mono ?_
  rintro e w3 ⟨rfl, hc1⟩
  have hS3 : (fun W => TCells w.heap.size x (some ad) c W ∧ ECells ad y yA yc W ∧ ECells ⟨ad.block, ad.off + 5, none⟩ u uA uc W) w3 := ⟨hS2.1.below hc1, hS2.2.1.below hc1, hS2.2.2.below hc1⟩
  have hd2 := below_next hd1 (by first | exact Nat.le_refl _ | simp) hc1
  have he2 := below_next he1 (by first | exact Nat.le_refl _ | exact he1.size) hc1
  clear hS2 hc1
  refine ⟨hS3, ?_⟩
  refine Rg.s_norm (a' := ?_) ?_ ?_; rotate_left; (simp only [Act.put, List.setIfInBounds_toArray, List.set_cons_zero, List.set_cons_succ]; rfl)
  refine Rg.p 68 ?_ ?_ rfl rfl (fun _ _ _ h => h) (by rfl) ?_ ?_ ?_; rotate_left 2; (focus (intro w'; apply add_run; exact rfl; exact rfl; exact rfl; all_goals (first | (with_reducible rfl) | omega | (simp only [ByteArray.size_append, lit1, lit3]; omega)))); (simp only [Rg.pq, Rg.pz, Rg.ps]; rfl)
  refine Rg.p 69 ?_ ?_ rfl rfl (fun _ _ _ h => h) (by rfl) ?_ ?_ ?_; rotate_left 2; (focus (intro w'; apply add_run; exact rfl; exact rfl; exact rfl; all_goals (first | (with_reducible rfl) | omega | (simp only [ByteArray.size_append, lit1, lit3]; omega)))); (simp only [Rg.pq, Rg.pz, Rg.ps]; rfl)
  refine Rg.s_call (N := some 76) rfl rfl Tryd.func89 (by kernel_rfl) rfl #[.agg #[.int .i64 u.f0, .int .i64 u.f1, .int .u64 u.f2, .string u.f3, .slice uA u.f4.length uc], .int .i64 (k + 1)] (by rfl) rfl (by (try simp only [List.map_toArray, List.map_cons, List.map_nil]); first | done | rfl) ?_
  refine (uI.out uA uc _ (HG.out.below hd2) (Kd.C_below uL1.out.2 he2) uL1.out.1).mono ?_
  rintro e w4 ⟨rfl, hc2⟩
  have hS4 : (fun W => TCells w.heap.size x (some ad) c W ∧ ECells ad y yA yc W ∧ ECells ⟨ad.block, ad.off + 5, none⟩ u uA uc W) w4 := ⟨hS3.1.below hc2, hS3.2.1.below hc2, hS3.2.2.below hc2⟩
  have hd3 := below_next hd2 (by first | exact Nat.le_refl _ | simp) hc2
  clear hS3 hc2
  refine ⟨hS4, ?_⟩
  refine Rg.s_norm (a' := ?_) ?_ ?_; rotate_left; (simp only [Act.put, List.setIfInBounds_toArray, List.set_cons_zero, List.set_cons_succ]; rfl)
  refine Rg.p 77 ?_ ?_ rfl rfl (fun _ _ _ h => h) (by rfl) ?_ ?_ ?_; rotate_left 2; (focus (intro w'; apply add_run; exact rfl; exact rfl; exact rfl; all_goals (first | (with_reducible rfl) | omega | (simp only [ByteArray.size_append, lit1, lit3]; omega)))); (simp only [Rg.pq, Rg.pz, Rg.ps]; rfl)
  refine Rg.p 2 ?_ ?_ rfl rfl (fun _ _ _ h => h) (by rfl) ?_ ?_ ?_; rotate_left 2; (intro w'; go_simp; with_reducible rfl); (simp only [Rg.pq, Rg.pz, Rg.ps]; rfl)
  refine Rg.s_done ?_
  go_wp2_with fail
  go_ret
  exact ⟨rfl, hd3⟩
theorem rtext_calls : ∀ (n : Nat), n ≤ 25 → ∀ (x : S40), OkE x → exprB n x = true → RIt x (txt n x)
  | 0, _, x, hO, h => by cases h
  | n + 1, hn, x, hO, h => by
    have N := node_of h
    have hl := N.len
    obtain ⟨f20, f21, f3z, f4z, hkk⟩ := hO
    have hz : x.f3.size ≤ 100000000000000 → x.f3.size ≤ 100000000000000 := id
    have IT : ∀ i, i < x.f4.length → RIt (kidE x i) (txt n (kidE x i)) := fun i hi => rtext_calls n (by omega) _ (hkk _ (kid_mem hi).2) (N.kids _ (kid_mem hi).2)
    have SZ : ∀ i, i < x.f4.length → (txt n (kidE x i)).size ≤ 99000000000000 := fun i hi => by
      have := txt_size n _ (N.kids _ (kid_mem hi).2)
      have := pow_small (show n ≤ 24 by omega)
      omega
    have OP : ∀ i, i < x.f4.length → (kidE x i).f0 = 4 → 1 ≤ (kidE x i).f1 ∧ (kidE x i).f1 ≤ 7 := fun i hi => by
      have hk := N.kids _ (kid_mem hi).2
      cases n with
      | zero => cases hk
      | succ m => exact (node_of hk).op
    have IH : ∀ i least, i < x.f4.length → RIh (kidE x i) least (hld (kidE x i) least (txt n (kidE x i))) := fun i least hi => rheld_calls_ _ least _ (by have := SZ i hi; omega) (IT i hi) (OP i hi)
    have HZ : ∀ i least, i < x.f4.length → (hld (kidE x i) least (txt n (kidE x i))).size ≤ 100000000000000 := fun i least hi => by
      have := hld_size (kidE x i) least (txt n (kidE x i))
      have := SZ i hi
      omega
    intro A c w hG hC hc
    unfold txt
    by_cases e1 : x.f0 = 1
    · rw [if_pos e1]
      exact rtext_one x A c w hG hC hc e1 f20 f21
    rw [if_neg e1]
    by_cases e2 : x.f0 = 2
    · rw [if_pos e2]
      exact rtext_two x A c w hG hC hc e2
    rw [if_neg e2]
    by_cases e3 : x.f0 = 3
    · rw [if_pos e3]
      have h0 : 0 < x.f4.length := by rw [e3] at hl; simp [kidsN] at hl; omega
      exact rtext_three x (kidE x 0) _ A c w hG hC hc e3 (kid_mem h0).1 (IT 0 h0) (by have := SZ 0 h0; omega) (by have := N.name (.inr e3); omega)
    rw [if_neg e3]
    by_cases e5 : x.f0 = 5
    · rw [if_pos e5]
      have h0 : 0 < x.f4.length := by rw [e5] at hl; simp [kidsN] at hl; omega
      exact rtext_five x (kidE x 0) _ A c w hG hC hc e5 (kid_mem h0).1 (IH 0 8 h0) (HZ 0 8 h0)
    rw [if_neg e5]
    by_cases e6 : x.f0 = 6
    · rw [if_pos e6]
      rw [e6] at hl; simp [kidsN] at hl
      have h0 : 0 < x.f4.length := by omega
      have h1 : 1 < x.f4.length := by omega
      have h2 : 2 < x.f4.length := by omega
      exact rtext_six x (kidE x 0) _ (kidE x 1) _ (kidE x 2) _ A c w hG hC hc e6 (kid_mem h0).1 (IH 0 2 h0) (HZ 0 2 h0) (kid_mem h1).1 (IT 1 h1) (by have := SZ 1 h1; omega) (kid_mem h2).1 (IT 2 h2) (by have := SZ 2 h2; omega)
    rw [if_neg e6]
    have e4 : x.f0 = 4 := by have := N.kind; omega
    have hop := N.op e4
    rw [e4] at hl; simp [kidsN] at hl
    have h0 : 0 < x.f4.length := by omega
    have h1 : 1 < x.f4.length := by omega
    exact rtext_four x (kidE x 0) _ (kidE x 1) _ A c w hG hC hc e4 _ (by unfold strengthF; rw [if_neg e6, if_pos e4]) (strengthL_le _).1 (strengthL_le _).2 _ rfl (signL_le _) (by omega) (by omega) (kid_mem h0).1 (IH 0 _ h0) (HZ 0 _ h0) (kid_mem h1).1 (IH 1 _ h1) (HZ 1 _ h1)
end Go.Proofs.YtlhnfgnihakcfaaDoor.Ax
set_option linter.unusedSimpArgs false
set_option linter.unusedVariables false
namespace Go.Proofs.YtlhnfgnihakcfaaDoor.Ax
open Go.RowKit Hp Kn Lx
open Go.Proofs.YtlhnfgnihakcfaaDoorW.PrintWords Go.Proofs.YtlhnfgnihakcfaaDoorW.PrintLast Go.Proofs.YtlhnfgnihakcfaaDoorW.PrintMore
theorem lit2 (a b : UInt8) : ByteArray.size ⟨#[a, b]⟩ = 2 := rfl
theorem lit4 (a b c d : UInt8) : ByteArray.size ⟨#[a, b, c, d]⟩ = 4 := rfl
theorem lit5 (a b c d e : UInt8) : ByteArray.size ⟨#[a, b, c, d, e]⟩ = 5 := rfl
theorem lit6 (a b c d e f : UInt8) : ByteArray.size ⟨#[a, b, c, d, e, f]⟩ = 6 := rfl
theorem lit7 (a b c d e f g : UInt8) : ByteArray.size ⟨#[a, b, c, d, e, f, g]⟩ = 7 := rfl
theorem lit9 (a b c d e f g h i : UInt8) : ByteArray.size ⟨#[a, b, c, d, e, f, g, h, i]⟩ = 9 := rfl
theorem bts_app (a b : ByteArray) : bts (a ++ b) = bts a ++ bts b := by unfold bts; simp
theorem bts_size (a : ByteArray) : a.size = (bts a).length := by unfold bts; rw [Array.length_toList]; rfl
theorem bts_inj {a b : ByteArray} (h : bts a = bts b) : a = b := by cases a; cases b; congr 1; exact Array.toList_inj.1 h
theorem repeatL_snoc (m : Nat) : Lib.repeatL [32, 32] m ++ [32, 32] = Lib.repeatL [32, 32] (m + 1) := by
  induction m with
  | zero => rfl
  | succ m ih => show [32, 32] ++ Lib.repeatL [32, 32] m ++ [32, 32] = _; rw [List.append_assoc, ih]; rfl
def RIl (n : Nat) : Prop := ∀ (l : List S64), (∀ y ∈ l, OkS y) → l.all (stmtB n) = true → l.length ≤ 140737488351232 → ∀ (A : Option Addr) (c m : Nat), m + n ≤ 100 → ∀ (s : ByteArray), bts s = Lib.repeatL [32, 32] m → ∀ (w : World), Gx w → Kd.C k64 w A l.length l → l.length ≤ c → (l.flatMap (stT n m)).length ≤ 140737488355328 →
  Calls Tryd.prog 43 #[.slice A l.length c, .string s] w fun e w' => ∃ o, e = .returned (.string o) ∧ bts o = l.flatMap (stT n m) ∧ Below w.heap.size w w'
theorem S5.below5 {g : Nat} {x : S64} {A2 : Option Addr} {c2 : Nat} {A3 : Option Addr} {c3 : Nat} {A4 : Option Addr} {c4 : Nat} {W W2 : World} (h : S5 g x A2 c2 A3 c3 A4 c4 W) (hb : Below W.heap.size W W2) : S5 g x A2 c2 A3 c3 A4 c4 W2 := by
  obtain ⟨s0, s1, s2, s3, s4⟩ := h
  have k : ∀ (a : Addr) v, W.cell? a = some v → W2.cell? a = some v := fun a v h => (hb.cell (World.block_lt_of_cell? W _ h)).trans h
  exact ⟨k _ _ s0, k _ _ s1, k _ _ s2, k _ _ s3, k _ _ s4⟩
set_option maxRecDepth 100000 in
set_option maxHeartbeats 8000000 in
theorem rlines_step (n : Nat) (hn : n ≤ 25) (IH : ∀ n', n' + 1 = n → RIl n') : RIl n := by
  intro l hO hv hlen A c m hm s hs w hG hC hc hz
  have HI := Lib.hid (And.intro hG (And.intro hO (And.intro hC hv)))
  have HH := Lib.hid IH
  have HSI := Lib.hid hs
  have HSS := Lib.hid (show bts (s ++ ⟨#[32, 32]⟩) = Lib.repeatL [32, 32] (m + 1) by rw [bts_app, hs, ← repeatL_snoc]; rfl)
  have hsz : s.size ≤ 200 := by rw [bts_size, hs, repeatL_len]; omega
  clear hG hO hC hv IH hs
  go_enter Tryd.func43, Tryd.ntmps43
  go_wp2
  go_loopw [5, 6] (fun v i wr => ∃ (k : Nat) (o : ByteArray), k ≤ l.length ∧ i = .int .i64 k ∧ v = .string o ∧ Hid (bts o = (l.take k).flatMap (stT n m)) ∧ Hid (Below w.heap.size w wr)) (fun _ i _ => l.length - (intOf i).toNat)
  case atStart => exact ⟨0, ⟨#[]⟩, by omega, rfl, rfl, rfl, Below.refl _ _⟩
  case round =>
    obtain ⟨k, o, hk, rfl, rfl, hO, hB⟩ := hrel
    by_cases hlt : k < l.length
    · obtain ⟨x, hs⟩ : ∃ x, l[k]? = some x := ⟨_, List.getElem?_eq_getElem hlt⟩
      have hmem : x ∈ l := List.mem_of_getElem? hs
      have hO5 := HI.out.2.1 x hmem
      have hvx : stmtB n x = true := List.all_eq_true.1 HI.out.2.2.2 x hmem
      obtain ⟨n', rfl⟩ : ∃ n', n = n' + 1 := by
        cases n with
        | zero => cases hvx
        | succ n' => exact ⟨n', rfl⟩
      have hN := snode_of hvx
      have IHI := HH.out n' rfl
      have HJ := Lib.hid IHI
      have hz2 : ((l.take k).flatMap (stT (n' + 1) m)).length + (stT (n' + 1) m x).length ≤ 140737488355328 := by
        have := flat_le2 (n := n' + 1) (m := m) l k x hs
        omega
      have hoz : o.size ≤ 140737488355328 := by rw [bts_size, hO.out]; omega
      clear hvx IHI
      obtain ⟨ad, A2, c2, A3, c3, A4, c4, rfl, h0, h1, h2, h3, h4, l2, g2, l3, g3, l4, g4⟩ := at_T64 (Kd.C_below HI.out.2.2.1 hB.out) (k : Int) (by omega) (by omega)
      have hrd : rd_T64 l (k : Int) = x := by simp [rd_T64, List.getD_eq_getElem?_getD, hs]
      rw [hrd] at h0 h1 h2 h3 h4 l2 g2 l3 g3 l4 g4
      have h0 : wr.cell? (ad.add (k * 5)) = some (.int .i64 x.f0) := h0
      have h1 : wr.cell? ⟨(ad.add (k * 5)).block, (ad.add (k * 5)).off + 1, none⟩ = some (.string x.f1) := h1
      have h2 : wr.cell? ⟨(ad.add (k * 5)).block, (ad.add (k * 5)).off + 2, none⟩ = some (.slice A2 x.f2.length c2) := h2
      have h3 : wr.cell? ⟨(ad.add (k * 5)).block, (ad.add (k * 5)).off + 3, none⟩ = some (.slice A3 x.f3.length c3) := h3
      have h4 : wr.cell? ⟨(ad.add (k * 5)).block, (ad.add (k * 5)).off + 4, none⟩ = some (.slice A4 x.f4.length c4) := h4
      have hC2 := g2
      have HL := Lib.hid (And.intro l2 (And.intro l3 (And.intro l4 (And.intro g3 g4))))
      have hk2 : ∀ e ∈ x.f2, OkE e := by cases hO5; assumption
      clear hrd hmem l2 l3 l4 g2 g3 g4
      rcases hN.kind with hf | hf | hf | hf | hf
      ·
        have hlen2 : 1 ≤ x.f2.length := by have := hN.len; rw [hf] at this; simp [partsN] at this; omega
        obtain ⟨ae, rfl⟩ := some_addr hC2 (by omega)
        obtain ⟨yA, yc, yE, yl, yC⟩ := kid_at hC2 0 (kidS_mem (x := x) (i := 0) (by omega)).1
        rw [add_zero] at yE
        have yT := rtext_calls n' (by omega) (kidS x 0) (hk2 _ (kidS_mem (x := x) (i := 0) (by omega)).2) (hN.kids _ (kidS_mem (x := x) (i := 0) (by omega)).2)
        have yz : (txt n' (kidS x 0)).size ≤ 100000000000000 := by
          have h5 := txt_size n' (kidS x 0) (hN.kids _ (kidS_mem (x := x) (i := 0) (by omega)).2)
          have h6 := pow_small (show n' ≤ 24 by omega)
          omega
        have my : (0 : Int) < (x.f2.length : Int) := by omega
        have ny : 0 < x.f2.length := by omega
        have hst : stT (n' + 1) m x = lineT m [x.f1, ⟨#[32, 61, 32]⟩, txt n' (kidS x 0), ⟨#[59]⟩] := by unfold stT; simp only [hf]; rfl
        have hz3 := hz2
        rw [hst] at hz3
        have HX := Lib.hid (And.intro hs hst)
        have HZ3 := Lib.hid hz3
        clear hst hz2 hz3
        have e1 : (x.f0 == 1) = true := by rw [hf]; rfl
        generalize kidS x 0 = y at yE yl yC yT yz HX HZ3
        generalize txt n' y = yt at yT yz HX HZ3
        have yH := Lib.hid (And.intro yl (And.intro yC yT))
        have HN := Lib.hid (And.intro hN (And.intro hf hO5))
        have hnm : x.f1.size ≤ 140737488351232 := by cases hO5; assumption
        clear hs hN hf hO5 hC2 yl yC yT
        have hbx : S5 wr.heap.size x (some ae) c2 A3 c3 A4 c4 (wr.alloc (.cells #[.int .i64 x.f0, .string x.f1, .slice (some ae) x.f2.length c2, .slice A3 x.f3.length c3, .slice A4 x.f4.length c4] 64)) := SBox.cells (Blk.alloc_new wr _ _)
        have hbw := (Below.refl wr.heap.size wr).alloc (Nat.le_refl _) (.cells #[.int .i64 x.f0, .string x.f1, .slice (some ae) x.f2.length c2, .slice A3 x.f3.length c3, .slice A4 x.f4.length c4] 64)
        have HS1 := Lib.hid (show (fun W => S5 wr.heap.size x (some ae) c2 A3 c3 A4 c4 W ∧ ECells ae y yA yc W) (wr.alloc (.cells #[.int .i64 x.f0, .string x.f1, .slice (some ae) x.f2.length c2, .slice A3 x.f3.length c3, .slice A4 x.f4.length c4] 64)) from ⟨hbx, yE.below hbw⟩)
        have HD1 := Lib.hid hbw
        clear hbx hbw yE
        go_wp2_with fail
        have hS : (fun W => S5 wr.heap.size x (some ae) c2 A3 c3 A4 c4 W ∧ ECells ae y yA yc W) (wr.alloc (.cells #[.int .i64 x.f0, .string x.f1, .slice (some ae) x.f2.length c2, .slice A3 x.f3.length c3, .slice A4 x.f4.length c4] 64)).drew := HS1.out
        refine Rg.region_steps (S := (fun W => S5 wr.heap.size x (some ae) c2 A3 c3 A4 c4 W ∧ ECells ae y yA yc W)) [.any 0, .any 1, .any 2, .any 3, .take 4, .any 5, .any 6, .any 7, .take 8, .any 9, .take 10, .one 11, .any 12, .any 13, .any 14] (by kernel_rfl) (by kernel_rfl) hS ?_
        refine Rg.p 53 ?_ ?_ rfl rfl (fun _ _ _ h => h) (by rfl) ?_ ?_ ?_; rotate_left 2; (intro w'; go_simp; with_reducible rfl); (simp only [Rg.pq, Rg.pz, Rg.ps]; rfl)
        refine Rg.p 54 ?_ ?_ rfl rfl (fun _ _ _ h => h) (by rfl) ?_ ?_ ?_; rotate_left 2; (intro w'; go_simp; with_reducible rfl); (simp only [Rg.pq, Rg.pz, Rg.ps]; rfl)
        refine Rg.p 55 ?_ ?_ rfl rfl (fun _ _ _ h => h) (by rfl) ?_ ?_ ?_; rotate_left 2; (focus (intro w'; apply add_run; exact rfl; exact rfl; exact rfl; all_goals (first | (with_reducible rfl) | omega | (simp only [ByteArray.size_append, lit1, lit3, lit2, lit4, lit5, lit6, lit7, lit9]; omega)))); (simp only [Rg.pq, Rg.pz, Rg.ps]; rfl)
        refine Rg.p 56 ?_ ?_ rfl rfl (fun _ _ _ h => h) (by rfl) ?_ ?_ ?_; rotate_left 2; (intro w'; go_simp; with_reducible rfl); (simp only [Rg.pq, Rg.pz, Rg.ps]; rfl)
        refine Rg.t 57 ?_ ?_ rfl rfl (fun _ _ _ h => h) (by assumption) (by rfl) ?_ ?_ ?_; rotate_left 2; (rintro w' ⟨⟨s0, s1, s2, s3, s4⟩, ⟨y0, y1, y2, y3, y4⟩⟩; go_simp; with_reducible rfl); (simp only [Rg.pq, Rg.pz, Rg.ps]; rfl)
        refine Rg.p 58 ?_ ?_ rfl rfl (fun _ _ _ h => h) (by rfl) ?_ ?_ ?_; rotate_left 2; (focus (intro w'; apply add_run; exact rfl; exact rfl; exact rfl; all_goals (first | (with_reducible rfl) | omega | (simp only [ByteArray.size_append, lit1, lit3, lit2, lit4, lit5, lit6, lit7, lit9]; omega)))); (simp only [Rg.pq, Rg.pz, Rg.ps]; rfl)
        refine Rg.p 59 ?_ ?_ rfl rfl (fun _ _ _ h => h) (by rfl) ?_ ?_ ?_; rotate_left 2; (focus (intro w'; apply add_run; exact rfl; exact rfl; exact rfl; all_goals (first | (with_reducible rfl) | omega | (simp only [ByteArray.size_append, lit1, lit3, lit2, lit4, lit5, lit6, lit7, lit9]; omega)))); (simp only [Rg.pq, Rg.pz, Rg.ps]; rfl)
        refine Rg.p 60 ?_ ?_ rfl rfl (fun _ _ _ h => h) (by rfl) ?_ ?_ ?_; rotate_left 2; (intro w'; go_simp; with_reducible rfl); (simp only [Rg.pq, Rg.pz, Rg.ps]; rfl)
        refine Rg.t 61 ?_ ?_ rfl rfl (fun _ _ _ h => h) (by assumption) (by rfl) ?_ ?_ ?_; rotate_left 2; (rintro w' ⟨⟨s0, s1, s2, s3, s4⟩, ⟨y0, y1, y2, y3, y4⟩⟩; go_simp; with_reducible rfl); (simp only [Rg.pq, Rg.pz, Rg.ps]; rfl)
        refine Rg.p 62 ?_ ?_ rfl rfl (fun _ _ _ h => h) (by rfl) ?_ ?_ ?_; rotate_left 2; (intro w'; go_simp; with_reducible rfl); (simp only [Rg.pq, Rg.pz, Rg.ps]; rfl)
        refine Rg.t 63 ?_ ?_ rfl rfl (fun _ _ _ h => h) (by assumption) (by rfl) ?_ ?_ ?_; rotate_left 2; (rintro w' ⟨⟨s0, s1, s2, s3, s4⟩, ⟨y0, y1, y2, y3, y4⟩⟩; go_simp; with_reducible rfl); (simp only [Rg.pq, Rg.pz, Rg.ps]; rfl)
        have HS1 := Lib.hid hS
        have HD1 := Lib.hid HD1.out.drew
        refine Rg.s_call (N := some 64) rfl rfl Tryd.func68 (by kernel_rfl) rfl #[.agg #[.int .i64 y.f0, .int .i64 y.f1, .int .u64 y.f2, .string y.f3, .slice yA y.f4.length yc]] (by rfl) rfl (by (try simp only [List.map_toArray, List.map_cons, List.map_nil]); first | done | rfl) ?_
        refine (yH.out.2.2 yA yc _ ((HI.out.1.below hB.out).below (HD1.out)) (Kd.C_below yH.out.2.1 (HD1.out)) yH.out.1).mono ?_
        rintro e w2 ⟨rfl, hc⟩
        have HS2 := Lib.hid (show (fun W => S5 wr.heap.size x (some ae) c2 A3 c3 A4 c4 W ∧ ECells ae y yA yc W) w2 from ⟨HS1.out.1.below5 hc, HS1.out.2.below hc⟩)
        have HD2 := Lib.hid (below_next (HD1.out) (Nat.le_refl _) hc)
        clear hc
        refine ⟨HS2.out, ?_⟩
        refine Rg.s_norm (a' := ?_) ?_ ?_; rotate_left; (simp only [Act.put, List.setIfInBounds_toArray, List.set_cons_zero, List.set_cons_succ]; rfl)
        refine Rg.p 65 ?_ ?_ rfl rfl (fun _ _ _ h => h) (by rfl) ?_ ?_ ?_; rotate_left 2; (focus (intro w'; apply add_run; exact rfl; exact rfl; exact rfl; all_goals (first | (with_reducible rfl) | omega | (simp only [ByteArray.size_append, lit1, lit3, lit2, lit4, lit5, lit6, lit7, lit9]; omega)))); (simp only [Rg.pq, Rg.pz, Rg.ps]; rfl)
        refine Rg.p 66 ?_ ?_ rfl rfl (fun _ _ _ h => h) (by rfl) ?_ ?_ ?_; rotate_left 2; (focus (intro w'; apply add_run; exact rfl; exact rfl; exact rfl; all_goals (first | (with_reducible rfl) | omega | (simp only [ByteArray.size_append, lit1, lit3, lit2, lit4, lit5, lit6, lit7, lit9]; omega)))); (simp only [Rg.pq, Rg.pz, Rg.ps]; rfl)
        refine Rg.p 5 ?_ ?_ rfl rfl (fun _ _ _ h => h) (by rfl) ?_ ?_ ?_; rotate_left 2; (intro w'; go_simp; with_reducible rfl); (simp only [Rg.pq, Rg.pz, Rg.ps]; rfl)
        refine Rg.s_done ?_
        go_wp2_with fail
        go_roundw
        case rel =>
          refine ⟨k + 1, _, by omega, by go_num, rfl, ?_, Lib.hid (below_next hB.out (Nat.le_refl _) HD2.out)⟩
          refine Lib.hid ?_
          rw [flat_take2 l k x HX.out.1, HX.out.2]
          simp only [bts_app, hO.out, HSI.out, lineT, List.flatMap_cons, List.flatMap_nil, List.append_assoc, List.append_nil]
          rfl
        case measure => simp [intOf]; omega
      ·
        have hlen2 : 2 ≤ x.f2.length := by have := hN.len; rw [hf] at this; simp [partsN] at this; omega
        obtain ⟨ae, rfl⟩ := some_addr hC2 (by omega)
        obtain ⟨yA, yc, yE, yl, yC⟩ := kid_at hC2 0 (kidS_mem (x := x) (i := 0) (by omega)).1
        rw [add_zero] at yE
        have yT := rtext_calls n' (by omega) (kidS x 0) (hk2 _ (kidS_mem (x := x) (i := 0) (by omega)).2) (hN.kids _ (kidS_mem (x := x) (i := 0) (by omega)).2)
        have yz : (txt n' (kidS x 0)).size ≤ 100000000000000 := by
          have h5 := txt_size n' (kidS x 0) (hN.kids _ (kidS_mem (x := x) (i := 0) (by omega)).2)
          have h6 := pow_small (show n' ≤ 24 by omega)
          omega
        have my : (0 : Int) < (x.f2.length : Int) := by omega
        have ny : 0 < x.f2.length := by omega
        obtain ⟨uA, uc, uE, ul, uC⟩ := kid_at hC2 1 (kidS_mem (x := x) (i := 1) (by omega)).1
        have uE : ECells ⟨ae.block, ae.off + 5, none⟩ (kidS x 1) uA uc wr := uE
        have uT := rtext_calls n' (by omega) (kidS x 1) (hk2 _ (kidS_mem (x := x) (i := 1) (by omega)).2) (hN.kids _ (kidS_mem (x := x) (i := 1) (by omega)).2)
        have uz : (txt n' (kidS x 1)).size ≤ 100000000000000 := by
          have h5 := txt_size n' (kidS x 1) (hN.kids _ (kidS_mem (x := x) (i := 1) (by omega)).2)
          have h6 := pow_small (show n' ≤ 24 by omega)
          omega
        have mu : (1 : Int) < (x.f2.length : Int) := by omega
        have nu : 1 < x.f2.length := by omega
        have hst : stT (n' + 1) m x = lineT m [x.f1, ⟨#[91]⟩, txt n' (kidS x 0), ⟨#[93, 32, 61, 32]⟩, txt n' (kidS x 1), ⟨#[59]⟩] := by unfold stT; simp only [hf]; rfl
        have hz3 := hz2
        rw [hst] at hz3
        have HX := Lib.hid (And.intro hs hst)
        have HZ3 := Lib.hid hz3
        clear hst hz2 hz3
        have e1 : (x.f0 == 1) = false := by rw [hf]; rfl
        have e2 : (x.f0 == 2) = true := by rw [hf]; rfl
        generalize kidS x 0 = y at yE yl yC yT yz HX HZ3
        generalize txt n' y = yt at yT yz HX HZ3
        generalize kidS x 1 = u at uE ul uC uT uz HX HZ3
        generalize txt n' u = ut at uT uz HX HZ3
        have yH := Lib.hid (And.intro yl (And.intro yC yT))
        have uH := Lib.hid (And.intro ul (And.intro uC uT))
        have HN := Lib.hid (And.intro hN (And.intro hf hO5))
        have hnm : x.f1.size ≤ 140737488351232 := by cases hO5; assumption
        clear hs hN hf hO5 hC2 yl yC yT ul uC uT
        have hbx : S5 wr.heap.size x (some ae) c2 A3 c3 A4 c4 (wr.alloc (.cells #[.int .i64 x.f0, .string x.f1, .slice (some ae) x.f2.length c2, .slice A3 x.f3.length c3, .slice A4 x.f4.length c4] 64)) := SBox.cells (Blk.alloc_new wr _ _)
        have hbw := (Below.refl wr.heap.size wr).alloc (Nat.le_refl _) (.cells #[.int .i64 x.f0, .string x.f1, .slice (some ae) x.f2.length c2, .slice A3 x.f3.length c3, .slice A4 x.f4.length c4] 64)
        have HS1 := Lib.hid (show (fun W => S5 wr.heap.size x (some ae) c2 A3 c3 A4 c4 W ∧ ECells ae y yA yc W ∧ ECells ⟨ae.block, ae.off + 5, none⟩ u uA uc W) (wr.alloc (.cells #[.int .i64 x.f0, .string x.f1, .slice (some ae) x.f2.length c2, .slice A3 x.f3.length c3, .slice A4 x.f4.length c4] 64)) from ⟨hbx, yE.below hbw, uE.below hbw⟩)
        have HD1 := Lib.hid hbw
        clear hbx hbw yE uE
        go_wp2_with fail
        have hS : (fun W => S5 wr.heap.size x (some ae) c2 A3 c3 A4 c4 W ∧ ECells ae y yA yc W ∧ ECells ⟨ae.block, ae.off + 5, none⟩ u uA uc W) (wr.alloc (.cells #[.int .i64 x.f0, .string x.f1, .slice (some ae) x.f2.length c2, .slice A3 x.f3.length c3, .slice A4 x.f4.length c4] 64)).drew := HS1.out
        refine Rg.region_steps (S := (fun W => S5 wr.heap.size x (some ae) c2 A3 c3 A4 c4 W ∧ ECells ae y yA yc W ∧ ECells ⟨ae.block, ae.off + 5, none⟩ u uA uc W)) [.any 0, .any 1, .any 2, .any 3, .take 4, .any 5, .any 6, .any 7, .take 8, .any 9, .take 10, .any 14, .take 15, .any 16, .take 17, .one 11, .any 12, .any 13, .one 18, .any 19, .any 20, .any 21] (by kernel_rfl) (by kernel_rfl) hS ?_
        refine Rg.p 69 ?_ ?_ rfl rfl (fun _ _ _ h => h) (by rfl) ?_ ?_ ?_; rotate_left 2; (intro w'; go_simp; with_reducible rfl); (simp only [Rg.pq, Rg.pz, Rg.ps]; rfl)
        refine Rg.p 70 ?_ ?_ rfl rfl (fun _ _ _ h => h) (by rfl) ?_ ?_ ?_; rotate_left 2; (intro w'; go_simp; with_reducible rfl); (simp only [Rg.pq, Rg.pz, Rg.ps]; rfl)
        refine Rg.p 71 ?_ ?_ rfl rfl (fun _ _ _ h => h) (by rfl) ?_ ?_ ?_; rotate_left 2; (focus (intro w'; apply add_run; exact rfl; exact rfl; exact rfl; all_goals (first | (with_reducible rfl) | omega | (simp only [ByteArray.size_append, lit1, lit3, lit2, lit4, lit5, lit6, lit7, lit9]; omega)))); (simp only [Rg.pq, Rg.pz, Rg.ps]; rfl)
        refine Rg.p 72 ?_ ?_ rfl rfl (fun _ _ _ h => h) (by rfl) ?_ ?_ ?_; rotate_left 2; (intro w'; go_simp; with_reducible rfl); (simp only [Rg.pq, Rg.pz, Rg.ps]; rfl)
        refine Rg.t 73 ?_ ?_ rfl rfl (fun _ _ _ h => h) (by assumption) (by rfl) ?_ ?_ ?_; rotate_left 2; (rintro w' ⟨⟨s0, s1, s2, s3, s4⟩, ⟨y0, y1, y2, y3, y4⟩, ⟨u0, u1, u2, u3, u4⟩⟩; go_simp; with_reducible rfl); (simp only [Rg.pq, Rg.pz, Rg.ps]; rfl)
        refine Rg.p 74 ?_ ?_ rfl rfl (fun _ _ _ h => h) (by rfl) ?_ ?_ ?_; rotate_left 2; (focus (intro w'; apply add_run; exact rfl; exact rfl; exact rfl; all_goals (first | (with_reducible rfl) | omega | (simp only [ByteArray.size_append, lit1, lit3, lit2, lit4, lit5, lit6, lit7, lit9]; omega)))); (simp only [Rg.pq, Rg.pz, Rg.ps]; rfl)
        refine Rg.p 75 ?_ ?_ rfl rfl (fun _ _ _ h => h) (by rfl) ?_ ?_ ?_; rotate_left 2; (focus (intro w'; apply add_run; exact rfl; exact rfl; exact rfl; all_goals (first | (with_reducible rfl) | omega | (simp only [ByteArray.size_append, lit1, lit3, lit2, lit4, lit5, lit6, lit7, lit9]; omega)))); (simp only [Rg.pq, Rg.pz, Rg.ps]; rfl)
        refine Rg.p 76 ?_ ?_ rfl rfl (fun _ _ _ h => h) (by rfl) ?_ ?_ ?_; rotate_left 2; (intro w'; go_simp; with_reducible rfl); (simp only [Rg.pq, Rg.pz, Rg.ps]; rfl)
        refine Rg.t 77 ?_ ?_ rfl rfl (fun _ _ _ h => h) (by assumption) (by rfl) ?_ ?_ ?_; rotate_left 2; (rintro w' ⟨⟨s0, s1, s2, s3, s4⟩, ⟨y0, y1, y2, y3, y4⟩, ⟨u0, u1, u2, u3, u4⟩⟩; go_simp; with_reducible rfl); (simp only [Rg.pq, Rg.pz, Rg.ps]; rfl)
        refine Rg.p 78 ?_ ?_ rfl rfl (fun _ _ _ h => h) (by rfl) ?_ ?_ ?_; rotate_left 2; (intro w'; go_simp; with_reducible rfl); (simp only [Rg.pq, Rg.pz, Rg.ps]; rfl)
        refine Rg.t 79 ?_ ?_ rfl rfl (fun _ _ _ h => h) (by assumption) (by rfl) ?_ ?_ ?_; rotate_left 2; (rintro w' ⟨⟨s0, s1, s2, s3, s4⟩, ⟨y0, y1, y2, y3, y4⟩, ⟨u0, u1, u2, u3, u4⟩⟩; go_simp; with_reducible rfl); (simp only [Rg.pq, Rg.pz, Rg.ps]; rfl)
        refine Rg.p 83 ?_ ?_ rfl rfl (fun _ _ _ h => h) (by rfl) ?_ ?_ ?_; rotate_left 2; (intro w'; go_simp; with_reducible rfl); (simp only [Rg.pq, Rg.pz, Rg.ps]; rfl)
        refine Rg.t 84 ?_ ?_ rfl rfl (fun _ _ _ h => h) (by assumption) (by rfl) ?_ ?_ ?_; rotate_left 2; (rintro w' ⟨⟨s0, s1, s2, s3, s4⟩, ⟨y0, y1, y2, y3, y4⟩, ⟨u0, u1, u2, u3, u4⟩⟩; go_simp; with_reducible rfl); (simp only [Rg.pq, Rg.pz, Rg.ps]; rfl)
        refine Rg.p 85 ?_ ?_ rfl rfl (fun _ _ _ h => h) (by rfl) ?_ ?_ ?_; rotate_left 2; (intro w'; go_simp; with_reducible rfl); (simp only [Rg.pq, Rg.pz, Rg.ps]; rfl)
        refine Rg.t 86 ?_ ?_ rfl rfl (fun _ _ _ h => h) (by assumption) (by rfl) ?_ ?_ ?_; rotate_left 2; (rintro w' ⟨⟨s0, s1, s2, s3, s4⟩, ⟨y0, y1, y2, y3, y4⟩, ⟨u0, u1, u2, u3, u4⟩⟩; go_simp; with_reducible rfl); (simp only [Rg.pq, Rg.pz, Rg.ps]; rfl)
        have HS1 := Lib.hid hS
        have HD1 := Lib.hid HD1.out.drew
        refine Rg.s_call (N := some 80) rfl rfl Tryd.func68 (by kernel_rfl) rfl #[.agg #[.int .i64 y.f0, .int .i64 y.f1, .int .u64 y.f2, .string y.f3, .slice yA y.f4.length yc]] (by rfl) rfl (by (try simp only [List.map_toArray, List.map_cons, List.map_nil]); first | done | rfl) ?_
        refine (yH.out.2.2 yA yc _ ((HI.out.1.below hB.out).below (HD1.out)) (Kd.C_below yH.out.2.1 (HD1.out)) yH.out.1).mono ?_
        rintro e w2 ⟨rfl, hc⟩
        have HS2 := Lib.hid (show (fun W => S5 wr.heap.size x (some ae) c2 A3 c3 A4 c4 W ∧ ECells ae y yA yc W ∧ ECells ⟨ae.block, ae.off + 5, none⟩ u uA uc W) w2 from ⟨HS1.out.1.below5 hc, HS1.out.2.1.below hc, HS1.out.2.2.below hc⟩)
        have HD2 := Lib.hid (below_next (HD1.out) (Nat.le_refl _) hc)
        clear hc
        refine ⟨HS2.out, ?_⟩
        refine Rg.s_norm (a' := ?_) ?_ ?_; rotate_left; (simp only [Act.put, List.setIfInBounds_toArray, List.set_cons_zero, List.set_cons_succ]; rfl)
        refine Rg.p 81 ?_ ?_ rfl rfl (fun _ _ _ h => h) (by rfl) ?_ ?_ ?_; rotate_left 2; (focus (intro w'; apply add_run; exact rfl; exact rfl; exact rfl; all_goals (first | (with_reducible rfl) | omega | (simp only [ByteArray.size_append, lit1, lit3, lit2, lit4, lit5, lit6, lit7, lit9]; omega)))); (simp only [Rg.pq, Rg.pz, Rg.ps]; rfl)
        refine Rg.p 82 ?_ ?_ rfl rfl (fun _ _ _ h => h) (by rfl) ?_ ?_ ?_; rotate_left 2; (focus (intro w'; apply add_run; exact rfl; exact rfl; exact rfl; all_goals (first | (with_reducible rfl) | omega | (simp only [ByteArray.size_append, lit1, lit3, lit2, lit4, lit5, lit6, lit7, lit9]; omega)))); (simp only [Rg.pq, Rg.pz, Rg.ps]; rfl)
        refine Rg.s_call (N := some 87) rfl rfl Tryd.func68 (by kernel_rfl) rfl #[.agg #[.int .i64 u.f0, .int .i64 u.f1, .int .u64 u.f2, .string u.f3, .slice uA u.f4.length uc]] (by rfl) rfl (by (try simp only [List.map_toArray, List.map_cons, List.map_nil]); first | done | rfl) ?_
        refine (uH.out.2.2 uA uc _ ((HI.out.1.below hB.out).below (HD2.out)) (Kd.C_below uH.out.2.1 (HD2.out)) uH.out.1).mono ?_
        rintro e w3 ⟨rfl, hc⟩
        have HS3 := Lib.hid (show (fun W => S5 wr.heap.size x (some ae) c2 A3 c3 A4 c4 W ∧ ECells ae y yA yc W ∧ ECells ⟨ae.block, ae.off + 5, none⟩ u uA uc W) w3 from ⟨HS2.out.1.below5 hc, HS2.out.2.1.below hc, HS2.out.2.2.below hc⟩)
        have HD3 := Lib.hid (below_next (HD2.out) (Nat.le_refl _) hc)
        clear hc
        refine ⟨HS3.out, ?_⟩
        refine Rg.s_norm (a' := ?_) ?_ ?_; rotate_left; (simp only [Act.put, List.setIfInBounds_toArray, List.set_cons_zero, List.set_cons_succ]; rfl)
        refine Rg.p 88 ?_ ?_ rfl rfl (fun _ _ _ h => h) (by rfl) ?_ ?_ ?_; rotate_left 2; (focus (intro w'; apply add_run; exact rfl; exact rfl; exact rfl; all_goals (first | (with_reducible rfl) | omega | (simp only [ByteArray.size_append, lit1, lit3, lit2, lit4, lit5, lit6, lit7, lit9]; omega)))); (simp only [Rg.pq, Rg.pz, Rg.ps]; rfl)
        refine Rg.p 89 ?_ ?_ rfl rfl (fun _ _ _ h => h) (by rfl) ?_ ?_ ?_; rotate_left 2; (focus (intro w'; apply add_run; exact rfl; exact rfl; exact rfl; all_goals (first | (with_reducible rfl) | omega | (simp only [ByteArray.size_append, lit1, lit3, lit2, lit4, lit5, lit6, lit7, lit9]; omega)))); (simp only [Rg.pq, Rg.pz, Rg.ps]; rfl)
        refine Rg.p 5 ?_ ?_ rfl rfl (fun _ _ _ h => h) (by rfl) ?_ ?_ ?_; rotate_left 2; (intro w'; go_simp; with_reducible rfl); (simp only [Rg.pq, Rg.pz, Rg.ps]; rfl)
        refine Rg.s_done ?_
        go_wp2_with fail
        go_roundw
        case rel =>
          refine ⟨k + 1, _, by omega, by go_num, rfl, ?_, Lib.hid (below_next hB.out (Nat.le_refl _) HD3.out)⟩
          refine Lib.hid ?_
          rw [flat_take2 l k x HX.out.1, HX.out.2]
          simp only [bts_app, hO.out, HSI.out, lineT, List.flatMap_cons, List.flatMap_nil, List.append_assoc, List.append_nil]
          rfl
        case measure => simp [intOf]; omega
      ·
        have hlen2 : 1 ≤ x.f2.length := by have := hN.len; rw [hf] at this; simp [partsN] at this; omega
        obtain ⟨ae, rfl⟩ := some_addr hC2 (by omega)
        obtain ⟨yA, yc, yE, yl, yC⟩ := kid_at hC2 0 (kidS_mem (x := x) (i := 0) (by omega)).1
        rw [add_zero] at yE
        have yT := rtext_calls n' (by omega) (kidS x 0) (hk2 _ (kidS_mem (x := x) (i := 0) (by omega)).2) (hN.kids _ (kidS_mem (x := x) (i := 0) (by omega)).2)
        have yz : (txt n' (kidS x 0)).size ≤ 100000000000000 := by
          have h5 := txt_size n' (kidS x 0) (hN.kids _ (kidS_mem (x := x) (i := 0) (by omega)).2)
          have h6 := pow_small (show n' ≤ 24 by omega)
          omega
        have my : (0 : Int) < (x.f2.length : Int) := by omega
        have ny : 0 < x.f2.length := by omega
        have hst : stT (n' + 1) m x = lineT m [⟨#[105, 102, 32, 40]⟩, txt n' (kidS x 0), ⟨#[41, 32, 123]⟩] ++ x.f3.flatMap (stT n' (m + 1)) ++ (if 0 < x.f4.length then lineT m [⟨#[125, 32, 101, 108, 115, 101, 32, 123]⟩] ++ x.f4.flatMap (stT n' (m + 1)) else []) ++ lineT m [⟨#[125]⟩] := by unfold stT; simp only [hf]; rfl
        have hz3 := hz2
        rw [hst] at hz3
        have HX := Lib.hid (And.intro hs hst)
        have HZ3 := Lib.hid hz3
        clear hst hz2 hz3
        have e1 : (x.f0 == 1) = false := by rw [hf]; rfl
        have e2 : (x.f0 == 2) = false := by rw [hf]; rfl
        have e5 : (x.f0 == 5) = false := by rw [hf]; rfl
        have e3 : (x.f0 == 3) = true := by rw [hf]; rfl
        generalize kidS x 0 = y at yE yl yC yT yz HX HZ3
        generalize txt n' y = yt at yT yz HX HZ3
        have yH := Lib.hid (And.intro yl (And.intro yC yT))
        have HN := Lib.hid (And.intro hN (And.intro hf hO5))
        have hnm : x.f1.size ≤ 140737488351232 := by cases hO5; assumption
        clear hs hN hf hO5 hC2 yl yC yT
        have hbx : S5 wr.heap.size x (some ae) c2 A3 c3 A4 c4 (wr.alloc (.cells #[.int .i64 x.f0, .string x.f1, .slice (some ae) x.f2.length c2, .slice A3 x.f3.length c3, .slice A4 x.f4.length c4] 64)) := SBox.cells (Blk.alloc_new wr _ _)
        have hbw := (Below.refl wr.heap.size wr).alloc (Nat.le_refl _) (.cells #[.int .i64 x.f0, .string x.f1, .slice (some ae) x.f2.length c2, .slice A3 x.f3.length c3, .slice A4 x.f4.length c4] 64)
        have HS1 := Lib.hid (show (fun W => S5 wr.heap.size x (some ae) c2 A3 c3 A4 c4 W ∧ ECells ae y yA yc W) (wr.alloc (.cells #[.int .i64 x.f0, .string x.f1, .slice (some ae) x.f2.length c2, .slice A3 x.f3.length c3, .slice A4 x.f4.length c4] 64)) from ⟨hbx, yE.below hbw⟩)
        have HD1 := Lib.hid hbw
        clear hbx hbw yE
        go_wp2_with fail
        have hS : (fun W => S5 wr.heap.size x (some ae) c2 A3 c3 A4 c4 W ∧ ECells ae y yA yc W) (wr.alloc (.cells #[.int .i64 x.f0, .string x.f1, .slice (some ae) x.f2.length c2, .slice A3 x.f3.length c3, .slice A4 x.f4.length c4] 64)).drew := HS1.out
        refine Rg.region_steps (S := (fun W => S5 wr.heap.size x (some ae) c2 A3 c3 A4 c4 W ∧ ECells ae y yA yc W)) [.any 0, .any 1, .any 2, .any 3, .any 4, .take 5, .any 6, .take 7, .any 11, .take 12, .any 13, .any 14, .one 8, .any 9, .any 10, .one 15, .any 16, .any 17] (by kernel_rfl) (by kernel_rfl) hS ?_
        refine Rg.p 105 ?_ ?_ rfl rfl (fun _ _ _ h => h) (by rfl) ?_ ?_ ?_; rotate_left 2; (intro w'; go_simp; with_reducible rfl); (simp only [Rg.pq, Rg.pz, Rg.ps]; rfl)
        refine Rg.p 106 ?_ ?_ rfl rfl (fun _ _ _ h => h) (by rfl) ?_ ?_ ?_; rotate_left 2; (intro w'; go_simp; with_reducible rfl); (simp only [Rg.pq, Rg.pz, Rg.ps]; rfl)
        refine Rg.p 107 ?_ ?_ rfl rfl (fun _ _ _ h => h) (by rfl) ?_ ?_ ?_; rotate_left 2; (focus (intro w'; apply add_run; exact rfl; exact rfl; exact rfl; all_goals (first | (with_reducible rfl) | omega | (simp only [ByteArray.size_append, lit1, lit3, lit2, lit4, lit5, lit6, lit7, lit9]; omega)))); (simp only [Rg.pq, Rg.pz, Rg.ps]; rfl)
        refine Rg.p 108 ?_ ?_ rfl rfl (fun _ _ _ h => h) (by rfl) ?_ ?_ ?_; rotate_left 2; (focus (intro w'; apply add_run; exact rfl; exact rfl; exact rfl; all_goals (first | (with_reducible rfl) | omega | (simp only [ByteArray.size_append, lit1, lit3, lit2, lit4, lit5, lit6, lit7, lit9]; omega)))); (simp only [Rg.pq, Rg.pz, Rg.ps]; rfl)
        refine Rg.p 109 ?_ ?_ rfl rfl (fun _ _ _ h => h) (by rfl) ?_ ?_ ?_; rotate_left 2; (intro w'; go_simp; with_reducible rfl); (simp only [Rg.pq, Rg.pz, Rg.ps]; rfl)
        refine Rg.t 110 ?_ ?_ rfl rfl (fun _ _ _ h => h) (by assumption) (by rfl) ?_ ?_ ?_; rotate_left 2; (rintro w' ⟨⟨s0, s1, s2, s3, s4⟩, ⟨y0, y1, y2, y3, y4⟩⟩; go_simp; with_reducible rfl); (simp only [Rg.pq, Rg.pz, Rg.ps]; rfl)
        refine Rg.p 111 ?_ ?_ rfl rfl (fun _ _ _ h => h) (by rfl) ?_ ?_ ?_; rotate_left 2; (intro w'; go_simp; with_reducible rfl); (simp only [Rg.pq, Rg.pz, Rg.ps]; rfl)
        refine Rg.t 112 ?_ ?_ rfl rfl (fun _ _ _ h => h) (by assumption) (by rfl) ?_ ?_ ?_; rotate_left 2; (rintro w' ⟨⟨s0, s1, s2, s3, s4⟩, ⟨y0, y1, y2, y3, y4⟩⟩; go_simp; with_reducible rfl); (simp only [Rg.pq, Rg.pz, Rg.ps]; rfl)
        refine Rg.p 116 ?_ ?_ rfl rfl (fun _ _ _ h => h) (by rfl) ?_ ?_ ?_; rotate_left 2; (intro w'; go_simp; with_reducible rfl); (simp only [Rg.pq, Rg.pz, Rg.ps]; rfl)
        refine Rg.t 117 ?_ ?_ rfl rfl (fun _ _ _ h => h) (by assumption) (by rfl) ?_ ?_ ?_; rotate_left 2; (rintro w' ⟨⟨s0, s1, s2, s3, s4⟩, ⟨y0, y1, y2, y3, y4⟩⟩; go_simp; with_reducible rfl); (simp only [Rg.pq, Rg.pz, Rg.ps]; rfl)
        refine Rg.p 118 ?_ ?_ rfl rfl (fun _ _ _ h => h) (by rfl) ?_ ?_ ?_; rotate_left 2; (intro w'; go_simp; with_reducible rfl); (simp only [Rg.pq, Rg.pz, Rg.ps]; rfl)
        refine Rg.p 119 ?_ ?_ rfl rfl (fun _ _ _ h => h) (by rfl) ?_ ?_ ?_; rotate_left 2; (focus (intro w'; apply add_run; exact rfl; exact rfl; exact rfl; all_goals (first | (with_reducible rfl) | omega | (simp only [ByteArray.size_append, lit1, lit3, lit2, lit4, lit5, lit6, lit7, lit9]; omega)))); (simp only [Rg.pq, Rg.pz, Rg.ps]; rfl)
        have HS1 := Lib.hid hS
        have HD1 := Lib.hid HD1.out.drew
        refine Rg.s_call (N := some 113) rfl rfl Tryd.func68 (by kernel_rfl) rfl #[.agg #[.int .i64 y.f0, .int .i64 y.f1, .int .u64 y.f2, .string y.f3, .slice yA y.f4.length yc]] (by rfl) rfl (by (try simp only [List.map_toArray, List.map_cons, List.map_nil]); first | done | rfl) ?_
        refine (yH.out.2.2 yA yc _ ((HI.out.1.below hB.out).below (HD1.out)) (Kd.C_below yH.out.2.1 (HD1.out)) yH.out.1).mono ?_
        rintro e w2 ⟨rfl, hc⟩
        have HS2 := Lib.hid (show (fun W => S5 wr.heap.size x (some ae) c2 A3 c3 A4 c4 W ∧ ECells ae y yA yc W) w2 from ⟨HS1.out.1.below5 hc, HS1.out.2.below hc⟩)
        have HD2 := Lib.hid (below_next (HD1.out) (Nat.le_refl _) hc)
        clear hc
        refine ⟨HS2.out, ?_⟩
        refine Rg.s_norm (a' := ?_) ?_ ?_; rotate_left; (simp only [Act.put, List.setIfInBounds_toArray, List.set_cons_zero, List.set_cons_succ]; rfl)
        refine Rg.p 114 ?_ ?_ rfl rfl (fun _ _ _ h => h) (by rfl) ?_ ?_ ?_; rotate_left 2; (focus (intro w'; apply add_run; exact rfl; exact rfl; exact rfl; all_goals (first | (with_reducible rfl) | omega | (simp only [ByteArray.size_append, lit1, lit3, lit2, lit4, lit5, lit6, lit7, lit9]; omega)))); (simp only [Rg.pq, Rg.pz, Rg.ps]; rfl)
        refine Rg.p 115 ?_ ?_ rfl rfl (fun _ _ _ h => h) (by rfl) ?_ ?_ ?_; rotate_left 2; (focus (intro w'; apply add_run; exact rfl; exact rfl; exact rfl; all_goals (first | (with_reducible rfl) | omega | (simp only [ByteArray.size_append, lit1, lit3, lit2, lit4, lit5, lit6, lit7, lit9]; omega)))); (simp only [Rg.pq, Rg.pz, Rg.ps]; rfl)
        refine Rg.s_call (N := some 120) rfl rfl Tryd.func43 (by kernel_rfl) rfl #[.slice A3 x.f3.length c3, .string (s ++ ⟨#[32, 32]⟩)] (by rfl) rfl (by (try simp only [List.map_toArray, List.map_cons, List.map_nil]); first | done | rfl) ?_
        refine (HJ.out x.f3 (by cases HN.out.2.2; assumption) HN.out.1.then_ (by cases HN.out.2.2; assumption) A3 c3 (m + 1) (by omega) _ HSS.out _ ((HI.out.1.below hB.out).below (HD2.out)) (Kd.C_below HL.out.2.2.2.1 (HD2.out)) HL.out.2.1 (by have := HZ3.out; simp only [List.length_append] at this ⊢; omega)).mono ?_
        rintro e w3 ⟨q3, rfl, q3b, hc⟩
        have q3z : q3.size ≤ 140737488355328 := by rw [bts_size, q3b]; have := HZ3.out; simp only [List.length_append] at this; omega
        have q3B := Lib.hid q3b
        have HS3 := Lib.hid (show (fun W => S5 wr.heap.size x (some ae) c2 A3 c3 A4 c4 W ∧ ECells ae y yA yc W) w3 from ⟨HS2.out.1.below5 hc, HS2.out.2.below hc⟩)
        have HD3 := Lib.hid (below_next (HD2.out) (Nat.le_refl _) hc)
        clear hc q3b
        refine ⟨HS3.out, ?_⟩
        refine Rg.s_norm (a' := ?_) ?_ ?_; rotate_left; (simp only [Act.put, List.setIfInBounds_toArray, List.set_cons_zero, List.set_cons_succ]; rfl)
        refine Rg.p 121 ?_ ?_ rfl rfl (fun _ _ _ h => h) (by rfl) ?_ ?_ ?_; rotate_left 2; (focus (intro w'; apply add_run; exact rfl; exact rfl; exact rfl; all_goals (first | (with_reducible rfl) | omega | (simp only [ByteArray.size_append, lit1, lit3, lit2, lit4, lit5, lit6, lit7, lit9]; omega)))); (simp only [Rg.pq, Rg.pz, Rg.ps]; rfl)
        refine Rg.p 5 ?_ ?_ rfl rfl (fun _ _ _ h => h) (by rfl) ?_ ?_ ?_; rotate_left 2; (intro w'; go_simp; with_reducible rfl); (simp only [Rg.pq, Rg.pz, Rg.ps]; rfl)
        refine Rg.s_done ?_
        have za : ByteArray.size ⟨#[111, 117, 116, 32]⟩ = 4 := rfl
        have zb : ByteArray.size ⟨#[59, 10]⟩ = 2 := rfl
        have zc : ByteArray.size ⟨#[125, 32, 101, 108, 115, 101, 32, 123, 10]⟩ = 9 := rfl
        have zd : ByteArray.size ⟨#[125, 10]⟩ = 2 := rfl
        have ze : ByteArray.size ⟨#[32, 32]⟩ = 2 := rfl
        by_cases hE : 0 < x.f4.length
        · have HEE := Lib.hid hE
          obtain ⟨⟨s0, s1, s2, s3, s4⟩, ⟨y0, y1, y2, y3, y4⟩⟩ := HS3.out
          go_wp2_with fail
          refine (HJ.out x.f4 (by cases HN.out.2.2; assumption) HN.out.1.else_ (by cases HN.out.2.2; assumption) A4 c4 (m + 1) (by omega) _ HSS.out _ ((HI.out.1.below hB.out).below (HD3.out)) (Kd.C_below HL.out.2.2.2.2 (HD3.out)) HL.out.2.2.1 (by have := HZ3.out; rw [if_pos HEE.out] at this; simp only [List.length_append] at this ⊢; omega)).mono ?_
          rintro e w4 ⟨q4, rfl, q4b, hc⟩
          have q4z : q4.size ≤ 140737488355328 := by rw [bts_size, q4b]; have := HZ3.out; rw [if_pos HEE.out] at this; simp only [List.length_append] at this; omega
          have q4B := Lib.hid q4b
          have HS4 := Lib.hid (show (fun W => S5 wr.heap.size x (some ae) c2 A3 c3 A4 c4 W ∧ ECells ae y yA yc W) w4 from ⟨HS3.out.1.below5 hc, HS3.out.2.below hc⟩)
          have HD4 := Lib.hid (below_next (HD3.out) (Nat.le_refl _) hc)
          clear hc q4b
          clear s0 s1 s2 s3 s4 y0 y1 y2 y3 y4
          go_wp2_with fail
          go_roundw
          case rel =>
            refine ⟨k + 1, _, by omega, by go_num, rfl, ?_, Lib.hid (below_next hB.out (Nat.le_refl _) HD4.out)⟩
            refine Lib.hid ?_
            rw [flat_take2 l k x HX.out.1, HX.out.2]
            rw [if_pos HEE.out]
            simp only [bts_app, hO.out, HSI.out, q3B.out, q4B.out, lineT, List.flatMap_cons, List.flatMap_nil, List.append_assoc, List.append_nil]
            rfl
          case measure => simp [intOf]; omega
        · have HEE := Lib.hid hE
          obtain ⟨⟨s0, s1, s2, s3, s4⟩, ⟨y0, y1, y2, y3, y4⟩⟩ := HS3.out
          go_wp2_with fail
          go_roundw
          case rel =>
            refine ⟨k + 1, _, by omega, by go_num, rfl, ?_, Lib.hid (below_next hB.out (Nat.le_refl _) HD3.out)⟩
            refine Lib.hid ?_
            rw [flat_take2 l k x HX.out.1, HX.out.2]
            rw [if_neg HEE.out]
            simp only [bts_app, hO.out, HSI.out, q3B.out, List.nil_append, lineT, List.flatMap_cons, List.flatMap_nil, List.append_assoc, List.append_nil]
            rfl
          case measure => simp [intOf]; omega
      ·
        have hlen2 : 2 ≤ x.f2.length := by have := hN.len; rw [hf] at this; simp [partsN] at this; omega
        obtain ⟨ae, rfl⟩ := some_addr hC2 (by omega)
        obtain ⟨yA, yc, yE, yl, yC⟩ := kid_at hC2 0 (kidS_mem (x := x) (i := 0) (by omega)).1
        rw [add_zero] at yE
        have yT := rtext_calls n' (by omega) (kidS x 0) (hk2 _ (kidS_mem (x := x) (i := 0) (by omega)).2) (hN.kids _ (kidS_mem (x := x) (i := 0) (by omega)).2)
        have yz : (txt n' (kidS x 0)).size ≤ 100000000000000 := by
          have h5 := txt_size n' (kidS x 0) (hN.kids _ (kidS_mem (x := x) (i := 0) (by omega)).2)
          have h6 := pow_small (show n' ≤ 24 by omega)
          omega
        have my : (0 : Int) < (x.f2.length : Int) := by omega
        have ny : 0 < x.f2.length := by omega
        obtain ⟨uA, uc, uE, ul, uC⟩ := kid_at hC2 1 (kidS_mem (x := x) (i := 1) (by omega)).1
        have uE : ECells ⟨ae.block, ae.off + 5, none⟩ (kidS x 1) uA uc wr := uE
        have uT := rtext_calls n' (by omega) (kidS x 1) (hk2 _ (kidS_mem (x := x) (i := 1) (by omega)).2) (hN.kids _ (kidS_mem (x := x) (i := 1) (by omega)).2)
        have uz : (txt n' (kidS x 1)).size ≤ 100000000000000 := by
          have h5 := txt_size n' (kidS x 1) (hN.kids _ (kidS_mem (x := x) (i := 1) (by omega)).2)
          have h6 := pow_small (show n' ≤ 24 by omega)
          omega
        have mu : (1 : Int) < (x.f2.length : Int) := by omega
        have nu : 1 < x.f2.length := by omega
        have hst : stT (n' + 1) m x = lineT m [⟨#[102, 111, 114, 32]⟩, x.f1, ⟨#[32, 61, 32]⟩, txt n' (kidS x 0), ⟨#[32, 116, 111, 32]⟩, txt n' (kidS x 1), ⟨#[32, 123]⟩] ++ x.f3.flatMap (stT n' (m + 1)) ++ lineT m [⟨#[125]⟩] := by unfold stT; simp only [hf]; rfl
        have hz3 := hz2
        rw [hst] at hz3
        have HX := Lib.hid (And.intro hs hst)
        have HZ3 := Lib.hid hz3
        clear hst hz2 hz3
        have e1 : (x.f0 == 1) = false := by rw [hf]; rfl
        have e2 : (x.f0 == 2) = false := by rw [hf]; rfl
        have e5 : (x.f0 == 5) = false := by rw [hf]; rfl
        have e3 : (x.f0 == 3) = false := by rw [hf]; rfl
        generalize kidS x 0 = y at yE yl yC yT yz HX HZ3
        generalize txt n' y = yt at yT yz HX HZ3
        generalize kidS x 1 = u at uE ul uC uT uz HX HZ3
        generalize txt n' u = ut at uT uz HX HZ3
        have yH := Lib.hid (And.intro yl (And.intro yC yT))
        have uH := Lib.hid (And.intro ul (And.intro uC uT))
        have HN := Lib.hid (And.intro hN (And.intro hf hO5))
        have hnm : x.f1.size ≤ 140737488351232 := by cases hO5; assumption
        clear hs hN hf hO5 hC2 yl yC yT ul uC uT
        have hbx : S5 wr.heap.size x (some ae) c2 A3 c3 A4 c4 (wr.alloc (.cells #[.int .i64 x.f0, .string x.f1, .slice (some ae) x.f2.length c2, .slice A3 x.f3.length c3, .slice A4 x.f4.length c4] 64)) := SBox.cells (Blk.alloc_new wr _ _)
        have hbw := (Below.refl wr.heap.size wr).alloc (Nat.le_refl _) (.cells #[.int .i64 x.f0, .string x.f1, .slice (some ae) x.f2.length c2, .slice A3 x.f3.length c3, .slice A4 x.f4.length c4] 64)
        have HS1 := Lib.hid (show (fun W => S5 wr.heap.size x (some ae) c2 A3 c3 A4 c4 W ∧ ECells ae y yA yc W ∧ ECells ⟨ae.block, ae.off + 5, none⟩ u uA uc W) (wr.alloc (.cells #[.int .i64 x.f0, .string x.f1, .slice (some ae) x.f2.length c2, .slice A3 x.f3.length c3, .slice A4 x.f4.length c4] 64)) from ⟨hbx, yE.below hbw, uE.below hbw⟩)
        have HD1 := Lib.hid hbw
        clear hbx hbw yE uE
        go_wp2_with fail
        have hS : (fun W => S5 wr.heap.size x (some ae) c2 A3 c3 A4 c4 W ∧ ECells ae y yA yc W ∧ ECells ⟨ae.block, ae.off + 5, none⟩ u uA uc W) (wr.alloc (.cells #[.int .i64 x.f0, .string x.f1, .slice (some ae) x.f2.length c2, .slice A3 x.f3.length c3, .slice A4 x.f4.length c4] 64)).drew := HS1.out
        refine Rg.region_steps (S := (fun W => S5 wr.heap.size x (some ae) c2 A3 c3 A4 c4 W ∧ ECells ae y yA yc W ∧ ECells ⟨ae.block, ae.off + 5, none⟩ u uA uc W)) [.any 0, .any 1, .any 2, .any 3, .any 4, .take 5, .any 6, .any 7, .any 8, .take 9, .any 10, .take 11, .any 15, .take 16, .any 17, .take 18, .any 22, .take 23, .any 24, .any 25, .any 28, .one 12, .any 13, .any 14, .one 19, .any 20, .any 21, .one 26, .any 27, .any 29, .any 30, .any 31] (by kernel_rfl) (by kernel_rfl) hS ?_
        refine Rg.p 20 ?_ ?_ rfl rfl (fun _ _ _ h => h) (by rfl) ?_ ?_ ?_; rotate_left 2; (intro w'; go_simp; with_reducible rfl); (simp only [Rg.pq, Rg.pz, Rg.ps]; rfl)
        refine Rg.p 21 ?_ ?_ rfl rfl (fun _ _ _ h => h) (by rfl) ?_ ?_ ?_; rotate_left 2; (intro w'; go_simp; with_reducible rfl); (simp only [Rg.pq, Rg.pz, Rg.ps]; rfl)
        refine Rg.p 22 ?_ ?_ rfl rfl (fun _ _ _ h => h) (by rfl) ?_ ?_ ?_; rotate_left 2; (focus (intro w'; apply add_run; exact rfl; exact rfl; exact rfl; all_goals (first | (with_reducible rfl) | omega | (simp only [ByteArray.size_append, lit1, lit3, lit2, lit4, lit5, lit6, lit7, lit9]; omega)))); (simp only [Rg.pq, Rg.pz, Rg.ps]; rfl)
        refine Rg.p 23 ?_ ?_ rfl rfl (fun _ _ _ h => h) (by rfl) ?_ ?_ ?_; rotate_left 2; (focus (intro w'; apply add_run; exact rfl; exact rfl; exact rfl; all_goals (first | (with_reducible rfl) | omega | (simp only [ByteArray.size_append, lit1, lit3, lit2, lit4, lit5, lit6, lit7, lit9]; omega)))); (simp only [Rg.pq, Rg.pz, Rg.ps]; rfl)
        refine Rg.p 24 ?_ ?_ rfl rfl (fun _ _ _ h => h) (by rfl) ?_ ?_ ?_; rotate_left 2; (intro w'; go_simp; with_reducible rfl); (simp only [Rg.pq, Rg.pz, Rg.ps]; rfl)
        refine Rg.t 25 ?_ ?_ rfl rfl (fun _ _ _ h => h) (by assumption) (by rfl) ?_ ?_ ?_; rotate_left 2; (rintro w' ⟨⟨s0, s1, s2, s3, s4⟩, ⟨y0, y1, y2, y3, y4⟩, ⟨u0, u1, u2, u3, u4⟩⟩; go_simp; with_reducible rfl); (simp only [Rg.pq, Rg.pz, Rg.ps]; rfl)
        refine Rg.p 26 ?_ ?_ rfl rfl (fun _ _ _ h => h) (by rfl) ?_ ?_ ?_; rotate_left 2; (focus (intro w'; apply add_run; exact rfl; exact rfl; exact rfl; all_goals (first | (with_reducible rfl) | omega | (simp only [ByteArray.size_append, lit1, lit3, lit2, lit4, lit5, lit6, lit7, lit9]; omega)))); (simp only [Rg.pq, Rg.pz, Rg.ps]; rfl)
        refine Rg.p 27 ?_ ?_ rfl rfl (fun _ _ _ h => h) (by rfl) ?_ ?_ ?_; rotate_left 2; (focus (intro w'; apply add_run; exact rfl; exact rfl; exact rfl; all_goals (first | (with_reducible rfl) | omega | (simp only [ByteArray.size_append, lit1, lit3, lit2, lit4, lit5, lit6, lit7, lit9]; omega)))); (simp only [Rg.pq, Rg.pz, Rg.ps]; rfl)
        refine Rg.p 28 ?_ ?_ rfl rfl (fun _ _ _ h => h) (by rfl) ?_ ?_ ?_; rotate_left 2; (intro w'; go_simp; with_reducible rfl); (simp only [Rg.pq, Rg.pz, Rg.ps]; rfl)
        refine Rg.t 29 ?_ ?_ rfl rfl (fun _ _ _ h => h) (by assumption) (by rfl) ?_ ?_ ?_; rotate_left 2; (rintro w' ⟨⟨s0, s1, s2, s3, s4⟩, ⟨y0, y1, y2, y3, y4⟩, ⟨u0, u1, u2, u3, u4⟩⟩; go_simp; with_reducible rfl); (simp only [Rg.pq, Rg.pz, Rg.ps]; rfl)
        refine Rg.p 30 ?_ ?_ rfl rfl (fun _ _ _ h => h) (by rfl) ?_ ?_ ?_; rotate_left 2; (intro w'; go_simp; with_reducible rfl); (simp only [Rg.pq, Rg.pz, Rg.ps]; rfl)
        refine Rg.t 31 ?_ ?_ rfl rfl (fun _ _ _ h => h) (by assumption) (by rfl) ?_ ?_ ?_; rotate_left 2; (rintro w' ⟨⟨s0, s1, s2, s3, s4⟩, ⟨y0, y1, y2, y3, y4⟩, ⟨u0, u1, u2, u3, u4⟩⟩; go_simp; with_reducible rfl); (simp only [Rg.pq, Rg.pz, Rg.ps]; rfl)
        refine Rg.p 35 ?_ ?_ rfl rfl (fun _ _ _ h => h) (by rfl) ?_ ?_ ?_; rotate_left 2; (intro w'; go_simp; with_reducible rfl); (simp only [Rg.pq, Rg.pz, Rg.ps]; rfl)
        refine Rg.t 36 ?_ ?_ rfl rfl (fun _ _ _ h => h) (by assumption) (by rfl) ?_ ?_ ?_; rotate_left 2; (rintro w' ⟨⟨s0, s1, s2, s3, s4⟩, ⟨y0, y1, y2, y3, y4⟩, ⟨u0, u1, u2, u3, u4⟩⟩; go_simp; with_reducible rfl); (simp only [Rg.pq, Rg.pz, Rg.ps]; rfl)
        refine Rg.p 37 ?_ ?_ rfl rfl (fun _ _ _ h => h) (by rfl) ?_ ?_ ?_; rotate_left 2; (intro w'; go_simp; with_reducible rfl); (simp only [Rg.pq, Rg.pz, Rg.ps]; rfl)
        refine Rg.t 38 ?_ ?_ rfl rfl (fun _ _ _ h => h) (by assumption) (by rfl) ?_ ?_ ?_; rotate_left 2; (rintro w' ⟨⟨s0, s1, s2, s3, s4⟩, ⟨y0, y1, y2, y3, y4⟩, ⟨u0, u1, u2, u3, u4⟩⟩; go_simp; with_reducible rfl); (simp only [Rg.pq, Rg.pz, Rg.ps]; rfl)
        refine Rg.p 42 ?_ ?_ rfl rfl (fun _ _ _ h => h) (by rfl) ?_ ?_ ?_; rotate_left 2; (intro w'; go_simp; with_reducible rfl); (simp only [Rg.pq, Rg.pz, Rg.ps]; rfl)
        refine Rg.t 43 ?_ ?_ rfl rfl (fun _ _ _ h => h) (by assumption) (by rfl) ?_ ?_ ?_; rotate_left 2; (rintro w' ⟨⟨s0, s1, s2, s3, s4⟩, ⟨y0, y1, y2, y3, y4⟩, ⟨u0, u1, u2, u3, u4⟩⟩; go_simp; with_reducible rfl); (simp only [Rg.pq, Rg.pz, Rg.ps]; rfl)
        refine Rg.p 44 ?_ ?_ rfl rfl (fun _ _ _ h => h) (by rfl) ?_ ?_ ?_; rotate_left 2; (intro w'; go_simp; with_reducible rfl); (simp only [Rg.pq, Rg.pz, Rg.ps]; rfl)
        refine Rg.p 45 ?_ ?_ rfl rfl (fun _ _ _ h => h) (by rfl) ?_ ?_ ?_; rotate_left 2; (focus (intro w'; apply add_run; exact rfl; exact rfl; exact rfl; all_goals (first | (with_reducible rfl) | omega | (simp only [ByteArray.size_append, lit1, lit3, lit2, lit4, lit5, lit6, lit7, lit9]; omega)))); (simp only [Rg.pq, Rg.pz, Rg.ps]; rfl)
        refine Rg.p 48 ?_ ?_ rfl rfl (fun _ _ _ h => h) (by rfl) ?_ ?_ ?_; rotate_left 2; (intro w'; go_simp; with_reducible rfl); (simp only [Rg.pq, Rg.pz, Rg.ps]; rfl)
        have HS1 := Lib.hid hS
        have HD1 := Lib.hid HD1.out.drew
        refine Rg.s_call (N := some 32) rfl rfl Tryd.func68 (by kernel_rfl) rfl #[.agg #[.int .i64 y.f0, .int .i64 y.f1, .int .u64 y.f2, .string y.f3, .slice yA y.f4.length yc]] (by rfl) rfl (by (try simp only [List.map_toArray, List.map_cons, List.map_nil]); first | done | rfl) ?_
        refine (yH.out.2.2 yA yc _ ((HI.out.1.below hB.out).below (HD1.out)) (Kd.C_below yH.out.2.1 (HD1.out)) yH.out.1).mono ?_
        rintro e w2 ⟨rfl, hc⟩
        have HS2 := Lib.hid (show (fun W => S5 wr.heap.size x (some ae) c2 A3 c3 A4 c4 W ∧ ECells ae y yA yc W ∧ ECells ⟨ae.block, ae.off + 5, none⟩ u uA uc W) w2 from ⟨HS1.out.1.below5 hc, HS1.out.2.1.below hc, HS1.out.2.2.below hc⟩)
        have HD2 := Lib.hid (below_next (HD1.out) (Nat.le_refl _) hc)
        clear hc
        refine ⟨HS2.out, ?_⟩
        refine Rg.s_norm (a' := ?_) ?_ ?_; rotate_left; (simp only [Act.put, List.setIfInBounds_toArray, List.set_cons_zero, List.set_cons_succ]; rfl)
        refine Rg.p 33 ?_ ?_ rfl rfl (fun _ _ _ h => h) (by rfl) ?_ ?_ ?_; rotate_left 2; (focus (intro w'; apply add_run; exact rfl; exact rfl; exact rfl; all_goals (first | (with_reducible rfl) | omega | (simp only [ByteArray.size_append, lit1, lit3, lit2, lit4, lit5, lit6, lit7, lit9]; omega)))); (simp only [Rg.pq, Rg.pz, Rg.ps]; rfl)
        refine Rg.p 34 ?_ ?_ rfl rfl (fun _ _ _ h => h) (by rfl) ?_ ?_ ?_; rotate_left 2; (focus (intro w'; apply add_run; exact rfl; exact rfl; exact rfl; all_goals (first | (with_reducible rfl) | omega | (simp only [ByteArray.size_append, lit1, lit3, lit2, lit4, lit5, lit6, lit7, lit9]; omega)))); (simp only [Rg.pq, Rg.pz, Rg.ps]; rfl)
        refine Rg.s_call (N := some 39) rfl rfl Tryd.func68 (by kernel_rfl) rfl #[.agg #[.int .i64 u.f0, .int .i64 u.f1, .int .u64 u.f2, .string u.f3, .slice uA u.f4.length uc]] (by rfl) rfl (by (try simp only [List.map_toArray, List.map_cons, List.map_nil]); first | done | rfl) ?_
        refine (uH.out.2.2 uA uc _ ((HI.out.1.below hB.out).below (HD2.out)) (Kd.C_below uH.out.2.1 (HD2.out)) uH.out.1).mono ?_
        rintro e w3 ⟨rfl, hc⟩
        have HS3 := Lib.hid (show (fun W => S5 wr.heap.size x (some ae) c2 A3 c3 A4 c4 W ∧ ECells ae y yA yc W ∧ ECells ⟨ae.block, ae.off + 5, none⟩ u uA uc W) w3 from ⟨HS2.out.1.below5 hc, HS2.out.2.1.below hc, HS2.out.2.2.below hc⟩)
        have HD3 := Lib.hid (below_next (HD2.out) (Nat.le_refl _) hc)
        clear hc
        refine ⟨HS3.out, ?_⟩
        refine Rg.s_norm (a' := ?_) ?_ ?_; rotate_left; (simp only [Act.put, List.setIfInBounds_toArray, List.set_cons_zero, List.set_cons_succ]; rfl)
        refine Rg.p 40 ?_ ?_ rfl rfl (fun _ _ _ h => h) (by rfl) ?_ ?_ ?_; rotate_left 2; (focus (intro w'; apply add_run; exact rfl; exact rfl; exact rfl; all_goals (first | (with_reducible rfl) | omega | (simp only [ByteArray.size_append, lit1, lit3, lit2, lit4, lit5, lit6, lit7, lit9]; omega)))); (simp only [Rg.pq, Rg.pz, Rg.ps]; rfl)
        refine Rg.p 41 ?_ ?_ rfl rfl (fun _ _ _ h => h) (by rfl) ?_ ?_ ?_; rotate_left 2; (focus (intro w'; apply add_run; exact rfl; exact rfl; exact rfl; all_goals (first | (with_reducible rfl) | omega | (simp only [ByteArray.size_append, lit1, lit3, lit2, lit4, lit5, lit6, lit7, lit9]; omega)))); (simp only [Rg.pq, Rg.pz, Rg.ps]; rfl)
        refine Rg.s_call (N := some 46) rfl rfl Tryd.func43 (by kernel_rfl) rfl #[.slice A3 x.f3.length c3, .string (s ++ ⟨#[32, 32]⟩)] (by rfl) rfl (by (try simp only [List.map_toArray, List.map_cons, List.map_nil]); first | done | rfl) ?_
        refine (HJ.out x.f3 (by cases HN.out.2.2; assumption) HN.out.1.then_ (by cases HN.out.2.2; assumption) A3 c3 (m + 1) (by omega) _ HSS.out _ ((HI.out.1.below hB.out).below (HD3.out)) (Kd.C_below HL.out.2.2.2.1 (HD3.out)) HL.out.2.1 (by have := HZ3.out; simp only [List.length_append] at this ⊢; omega)).mono ?_
        rintro e w4 ⟨q3, rfl, q3b, hc⟩
        have q3z : q3.size ≤ 140737488355328 := by rw [bts_size, q3b]; have := HZ3.out; simp only [List.length_append] at this; omega
        have q3B := Lib.hid q3b
        have HS4 := Lib.hid (show (fun W => S5 wr.heap.size x (some ae) c2 A3 c3 A4 c4 W ∧ ECells ae y yA yc W ∧ ECells ⟨ae.block, ae.off + 5, none⟩ u uA uc W) w4 from ⟨HS3.out.1.below5 hc, HS3.out.2.1.below hc, HS3.out.2.2.below hc⟩)
        have HD4 := Lib.hid (below_next (HD3.out) (Nat.le_refl _) hc)
        clear hc q3b
        refine ⟨HS4.out, ?_⟩
        refine Rg.s_norm (a' := ?_) ?_ ?_; rotate_left; (simp only [Act.put, List.setIfInBounds_toArray, List.set_cons_zero, List.set_cons_succ]; rfl)
        refine Rg.p 47 ?_ ?_ rfl rfl (fun _ _ _ h => h) (by rfl) ?_ ?_ ?_; rotate_left 2; (focus (intro w'; apply add_run; exact rfl; exact rfl; exact rfl; all_goals (first | (with_reducible rfl) | omega | (simp only [ByteArray.size_append, lit1, lit3, lit2, lit4, lit5, lit6, lit7, lit9]; omega)))); (simp only [Rg.pq, Rg.pz, Rg.ps]; rfl)
        refine Rg.p 49 ?_ ?_ rfl rfl (fun _ _ _ h => h) (by rfl) ?_ ?_ ?_; rotate_left 2; (focus (intro w'; apply add_run; exact rfl; exact rfl; exact rfl; all_goals (first | (with_reducible rfl) | omega | (simp only [ByteArray.size_append, lit1, lit3, lit2, lit4, lit5, lit6, lit7, lit9]; omega)))); (simp only [Rg.pq, Rg.pz, Rg.ps]; rfl)
        refine Rg.p 50 ?_ ?_ rfl rfl (fun _ _ _ h => h) (by rfl) ?_ ?_ ?_; rotate_left 2; (focus (intro w'; apply add_run; exact rfl; exact rfl; exact rfl; all_goals (first | (with_reducible rfl) | omega | (simp only [ByteArray.size_append, lit1, lit3, lit2, lit4, lit5, lit6, lit7, lit9]; omega)))); (simp only [Rg.pq, Rg.pz, Rg.ps]; rfl)
        refine Rg.p 5 ?_ ?_ rfl rfl (fun _ _ _ h => h) (by rfl) ?_ ?_ ?_; rotate_left 2; (intro w'; go_simp; with_reducible rfl); (simp only [Rg.pq, Rg.pz, Rg.ps]; rfl)
        refine Rg.s_done ?_
        go_wp2_with fail
        go_roundw
        case rel =>
          refine ⟨k + 1, _, by omega, by go_num, rfl, ?_, Lib.hid (below_next hB.out (Nat.le_refl _) HD4.out)⟩
          refine Lib.hid ?_
          rw [flat_take2 l k x HX.out.1, HX.out.2]
          simp only [bts_app, hO.out, HSI.out, q3B.out, lineT, List.flatMap_cons, List.flatMap_nil, List.append_assoc, List.append_nil]
          rfl
        case measure => simp [intOf]; omega
      ·
        have hlen2 : 1 ≤ x.f2.length := by have := hN.len; rw [hf] at this; simp [partsN] at this; omega
        obtain ⟨ae, rfl⟩ := some_addr hC2 (by omega)
        obtain ⟨yA, yc, yE, yl, yC⟩ := kid_at hC2 0 (kidS_mem (x := x) (i := 0) (by omega)).1
        rw [add_zero] at yE
        have yT := rtext_calls n' (by omega) (kidS x 0) (hk2 _ (kidS_mem (x := x) (i := 0) (by omega)).2) (hN.kids _ (kidS_mem (x := x) (i := 0) (by omega)).2)
        have yz : (txt n' (kidS x 0)).size ≤ 100000000000000 := by
          have h5 := txt_size n' (kidS x 0) (hN.kids _ (kidS_mem (x := x) (i := 0) (by omega)).2)
          have h6 := pow_small (show n' ≤ 24 by omega)
          omega
        have my : (0 : Int) < (x.f2.length : Int) := by omega
        have ny : 0 < x.f2.length := by omega
        have hst : stT (n' + 1) m x = lineT m [⟨#[111, 117, 116, 32]⟩, txt n' (kidS x 0), ⟨#[59]⟩] := by unfold stT; simp only [hf]; rfl
        have hz3 := hz2
        rw [hst] at hz3
        have HX := Lib.hid (And.intro hs hst)
        have HZ3 := Lib.hid hz3
        clear hst hz2 hz3
        have e1 : (x.f0 == 1) = false := by rw [hf]; rfl
        have e2 : (x.f0 == 2) = false := by rw [hf]; rfl
        have e5 : (x.f0 == 5) = true := by rw [hf]; rfl
        generalize kidS x 0 = y at yE yl yC yT yz HX HZ3
        generalize txt n' y = yt at yT yz HX HZ3
        have yH := Lib.hid (And.intro yl (And.intro yC yT))
        have HN := Lib.hid (And.intro hN (And.intro hf hO5))
        have hnm : x.f1.size ≤ 140737488351232 := by cases hO5; assumption
        clear hs hN hf hO5 hC2 yl yC yT
        have hbx : S5 wr.heap.size x (some ae) c2 A3 c3 A4 c4 (wr.alloc (.cells #[.int .i64 x.f0, .string x.f1, .slice (some ae) x.f2.length c2, .slice A3 x.f3.length c3, .slice A4 x.f4.length c4] 64)) := SBox.cells (Blk.alloc_new wr _ _)
        have hbw := (Below.refl wr.heap.size wr).alloc (Nat.le_refl _) (.cells #[.int .i64 x.f0, .string x.f1, .slice (some ae) x.f2.length c2, .slice A3 x.f3.length c3, .slice A4 x.f4.length c4] 64)
        have HS1 := Lib.hid (show (fun W => S5 wr.heap.size x (some ae) c2 A3 c3 A4 c4 W ∧ ECells ae y yA yc W) (wr.alloc (.cells #[.int .i64 x.f0, .string x.f1, .slice (some ae) x.f2.length c2, .slice A3 x.f3.length c3, .slice A4 x.f4.length c4] 64)) from ⟨hbx, yE.below hbw⟩)
        have HD1 := Lib.hid hbw
        clear hbx hbw yE
        have za : ByteArray.size ⟨#[111, 117, 116, 32]⟩ = 4 := rfl
        have zb : ByteArray.size ⟨#[59, 10]⟩ = 2 := rfl
        have zc : ByteArray.size ⟨#[125, 32, 101, 108, 115, 101, 32, 123, 10]⟩ = 9 := rfl
        have zd : ByteArray.size ⟨#[125, 10]⟩ = 2 := rfl
        have ze : ByteArray.size ⟨#[32, 32]⟩ = 2 := rfl
        obtain ⟨⟨s0, s1, s2, s3, s4⟩, ⟨y0, y1, y2, y3, y4⟩⟩ := HS1.out
        go_wp2_with fail
        refine (yH.out.2.2 yA yc _ ((HI.out.1.below hB.out).below (HD1.out)) (Kd.C_below yH.out.2.1 (HD1.out)) yH.out.1).mono ?_
        rintro e w2 ⟨rfl, hc⟩
        have HS2 := Lib.hid (show (fun W => S5 wr.heap.size x (some ae) c2 A3 c3 A4 c4 W ∧ ECells ae y yA yc W) w2 from ⟨HS1.out.1.below5 hc, HS1.out.2.below hc⟩)
        have HD2 := Lib.hid (below_next (HD1.out) (Nat.le_refl _) hc)
        clear hc
        clear s0 s1 s2 s3 s4 y0 y1 y2 y3 y4
        go_wp2_with fail
        go_roundw
        case rel =>
          refine ⟨k + 1, _, by omega, by go_num, rfl, ?_, Lib.hid (below_next hB.out (Nat.le_refl _) HD2.out)⟩
          refine Lib.hid ?_
          rw [flat_take2 l k x HX.out.1, HX.out.2]
          simp only [bts_app, hO.out, HSI.out, lineT, List.flatMap_cons, List.flatMap_nil, List.append_assoc, List.append_nil]
          rfl
        case measure => simp [intOf]; omega
    · go_wp2_with fail
      go_ret
      exact ⟨o, rfl, by have := hO.out; rwa [List.take_of_length_le (by omega)] at this, hB.out⟩
theorem rlines_calls : ∀ (n : Nat), n ≤ 25 → RIl n
  | 0, h => rlines_step 0 h (fun n' e => by omega)
  | n + 1, h => rlines_step (n + 1) h (fun n' e => by
    obtain rfl : n' = n := by omega
    exact rlines_calls n' (by omega))
end Go.Proofs.YtlhnfgnihakcfaaDoor.Ax
set_option linter.unusedSimpArgs false
set_option linter.unusedVariables false
namespace Go.Proofs.YtlhnfgnihakcfaaDoor.Ax
open Go.RowKit Hp Kn Lx
open Go.Proofs.YtlhnfgnihakcfaaDoorW.PrintWords Go.Proofs.YtlhnfgnihakcfaaDoorW.PrintLast Go.Proofs.YtlhnfgnihakcfaaDoorW.PrintMore
theorem rnum_int (z : Int) (h0 : 0 ≤ z) (h1 : z ≤ 1000) (w : World) :
    Calls Tryd.prog 42 #[.int .i64 z] w fun e w' => e = .returned (.string (dec z.toNat)) ∧ Below w.heap.size w w' := by
  have hw : IntKind.u64.wrap z = z := by rw [IntKind.wrap_u64]; omega
  go_enter Tryd.func42, Tryd.ntmps42
  go_wp2_with fail
  refine (rdecimal_int z h0 (by omega) _).mono ?_
  rintro e w' ⟨rfl, hb⟩
  go_wp2_with fail
  go_ret
  exact ⟨rfl, hb⟩
set_option maxRecDepth 100000 in
set_option maxHeartbeats 8000000 in
theorem rformat_calls (A0 : Option Addr) (c0 : Nat) (l0 : List S55) (A1 : Option Addr) (c1 : Nat) (l1 : List S58) (A2 : Option Addr) (c2 : Nat) (l2 : List S64) (w : World) (hG : Gx w)
    (hC0 : Kd.C k55 w A0 l0.length l0) (hC1 : Kd.C k58 w A1 l1.length l1) (hC2 : Kd.C k64 w A2 l2.length l2) (hc2 : l2.length ≤ c2)
    (n0 : l0.length ≤ 140737488351232) (n1 : l1.length ≤ 140737488351232) (n2 : l2.length ≤ 140737488351232) (hI : ∀ x ∈ l0, InOk x) (hA : ∀ x ∈ l1, ArOk x) (hJ : ∀ x ∈ l0, x.f0.size ≤ 140737488351232) (hK : ∀ x ∈ l1, x.f0.size ≤ 140737488351232) (hO : ∀ x ∈ l2, OkS x) (hv : l2.all (stmtB 24) = true) (hz : (fmtB l0 l1 l2).length ≤ 140737488355328) :
    Calls Tryd.prog 17 #[.agg #[.slice A0 l0.length c0, .slice A1 l1.length c1, .slice A2 l2.length c2]] w fun e w' => e = .returned (.string ⟨(fmtB l0 l1 l2).toArray⟩) ∧ Below w.heap.size w w' := by
  have hz1 : (l0.flatMap inT).length + ((l1.flatMap arT).length + (l2.flatMap (stT 24 0)).length) ≤ 140737488355328 := by
    unfold fmtB at hz
    simp only [List.length_append] at hz
    omega
  have HZ := Lib.hid hz1
  have HC := Lib.hid (And.intro hC0 (And.intro hC1 hC2))
  have HI := Lib.hid (And.intro hG (And.intro hI (And.intro hA (And.intro (And.intro hO hv) (And.intro hK hJ)))))
  clear hz hz1 hC0 hC1 hC2 hG hI hA hO hv hJ hK
  go_enter Tryd.func17, Tryd.ntmps17
  go_wp2
  have HX0 := Lib.hid (Blk.alloc_new w [.slice A0 l0.length c0, .slice A1 l1.length c1, .slice A2 l2.length c2] 26)
  have HB0 := Lib.hid ((Below.refl w.heap.size w).alloc (Nat.le_refl _) (.cells #[.slice A0 l0.length c0, .slice A1 l1.length c1, .slice A2 l2.length c2] 26))
  go_loopw [3, 4] (fun v i wr => ∃ (k : Nat) (o : ByteArray), k ≤ l0.length ∧ i = .int .i64 k ∧ v = .string o ∧ Hid (bts o = (l0.take k).flatMap inT) ∧ Hid (Below w.heap.size w wr) ∧ Hid (Blk wr w.heap.size [.slice A0 l0.length c0, .slice A1 l1.length c1, .slice A2 l2.length c2] 26)) (fun _ i _ => l0.length - (intOf i).toNat)
  case atStart => exact ⟨0, ⟨#[]⟩, by omega, rfl, rfl, rfl, HB0, HX0⟩
  case round =>
    obtain ⟨k, o, hk, rfl, rfl, hO, hB, hX⟩ := hrel
    clear HX0 HB0
    by_cases hlt : k < l0.length
    ·
      obtain ⟨x, hs⟩ : ∃ x, l0[k]? = some x := ⟨_, List.getElem?_eq_getElem hlt⟩
      obtain ⟨ad, rfl, h0, h1, h2, h3⟩ := at_T55 HC.out.1 (k : Int) (by omega) (by omega)
      have hrd : rd_T55 l0 (k : Int) = x := by simp [rd_T55, List.getD_eq_getElem?_getD, hs]
      rw [hrd] at h0 h1 h2 h3
      have h0 : wr.cell? (ad.add (k * 4)) = some (.string x.f0) := (hB.out.cell (World.block_lt_of_cell? w _ h0)).trans h0
      have h1 : wr.cell? ⟨(ad.add (k * 4)).block, (ad.add (k * 4)).off + 1, none⟩ = some (.int .i64 x.f1) := (hB.out.cell (World.block_lt_of_cell? w _ h1)).trans h1
      have h2 : wr.cell? ⟨(ad.add (k * 4)).block, (ad.add (k * 4)).off + 2, none⟩ = some (.int .i64 x.f2) := (hB.out.cell (World.block_lt_of_cell? w _ h2)).trans h2
      have h3 : wr.cell? ⟨(ad.add (k * 4)).block, (ad.add (k * 4)).off + 3, none⟩ = some (.int .i64 x.f3) := (hB.out.cell (World.block_lt_of_cell? w _ h3)).trans h3
      have hz2 := flatM_le inT l0 k x hs
      have hoz : o.size ≤ 140737488355328 := by rw [bts_size, hO.out]; have := HZ.out; omega
      have HR := Lib.hid hs
      have HW := Lib.hid (HI.out.2.1 x (List.mem_of_getElem? hs))
      have hnm : x.f0.size ≤ 140737488351232 := HI.out.2.2.2.2.2 x (List.mem_of_getElem? hs)
      have hd1 := dec_size x.f1.toNat (by have := HW.out; unfold InOk at this; omega)
      have hd2 := dec_size x.f2.toNat (by have := HW.out; unfold InOk at this; omega)
      have hd3 := dec_size x.f3.toNat (by have := HW.out; unfold InOk at this; omega)
      clear hrd hs hz2
      have HW1 := Lib.hid (Blk.alloc_new wr [.string x.f0, .int .i64 x.f1, .int .i64 x.f2, .int .i64 x.f3] 55)
      have HX1 := Lib.hid (Blk.alloc hX.out (.cells #[.string x.f0, .int .i64 x.f1, .int .i64 x.f2, .int .i64 x.f3] 55))
      have HB1 := Lib.hid (hB.out.alloc hB.out.size (.cells #[.string x.f0, .int .i64 x.f1, .int .i64 x.f2, .int .i64 x.f3] 55))
      have x0 : (wr.alloc (.cells #[.string x.f0, .int .i64 x.f1, .int .i64 x.f2, .int .i64 x.f3] 55)).cell? ⟨w.heap.size, 0, none⟩ = some (.slice (some ad) l0.length c0) := HX1.out.cell 0 rfl
      have x0' : wr.cell? ⟨w.heap.size, 0, none⟩ = some (.slice (some ad) l0.length c0) := hX.out.cell 0 rfl
      by_cases h30 : x.f3 = 0
      · have hz0 : (x.f3 != 0) = false := by rw [h30]; rfl
        have hsz : sizeT x.f3 = ⟨#[]⟩ := by rw [h30]; rfl
        have HT := Lib.hid (show inT x = lineT 0 [⟨#[105, 110, 32]⟩, x.f0, ⟨#[]⟩, ⟨#[32, 102, 114, 111, 109, 32]⟩, dec x.f1.toNat, ⟨#[58, 32]⟩, dec x.f2.toNat, ⟨#[59]⟩] from by unfold inT inP; rw [hsz])
        have zze : ByteArray.size ⟨#[]⟩ = 0 := rfl
        clear hsz h30
        go_wp2_with fail
        have hS : (fun W => W.cell? ⟨wr.heap.size, 0, none⟩ = some (.string x.f0) ∧ W.cell? ⟨wr.heap.size, 1, none⟩ = some (.int .i64 x.f1) ∧ W.cell? ⟨wr.heap.size, 2, none⟩ = some (.int .i64 x.f2)) (wr.alloc (.cells #[.string x.f0, .int .i64 x.f1, .int .i64 x.f2, .int .i64 x.f3] 55)).drew := ⟨HW1.out.cell 0 rfl, HW1.out.cell 1 rfl, HW1.out.cell 2 rfl⟩
        refine Rg.region_steps (S := (fun W => W.cell? ⟨wr.heap.size, 0, none⟩ = some (.string x.f0) ∧ W.cell? ⟨wr.heap.size, 1, none⟩ = some (.int .i64 x.f1) ∧ W.cell? ⟨wr.heap.size, 2, none⟩ = some (.int .i64 x.f2))) [.any 0, .any 1, .any 2, .take 3, .any 4, .any 5, .any 6, .any 7, .any 8, .take 9, .any 13, .take 14, .one 10, .any 11, .any 12, .one 15, .any 16, .any 17, .any 18] (by kernel_rfl) (by kernel_rfl) hS ?_
        refine Rg.p 28 ?_ ?_ rfl rfl (fun _ _ _ h => h) (by rfl) ?_ ?_ ?_; rotate_left 2; (intro w'; go_simp; with_reducible rfl); (simp only [Rg.pq, Rg.pz, Rg.ps]; rfl)
        refine Rg.p 29 ?_ ?_ rfl rfl (fun _ _ _ h => h) (by rfl) ?_ ?_ ?_; rotate_left 2; (focus (intro w'; apply add_run; exact rfl; exact rfl; exact rfl; all_goals (first | (with_reducible rfl) | omega | (simp only [ByteArray.size_append, lit1, lit3, lit2, lit4, lit5, lit6, lit7, lit9]; omega)))); (simp only [Rg.pq, Rg.pz, Rg.ps]; rfl)
        refine Rg.p 30 ?_ ?_ rfl rfl (fun _ _ _ h => h) (by rfl) ?_ ?_ ?_; rotate_left 2; (intro w'; go_simp; with_reducible rfl); (simp only [Rg.pq, Rg.pz, Rg.ps]; rfl)
        refine Rg.t 31 ?_ ?_ rfl rfl (fun _ _ _ h => h) (by assumption) (by rfl) ?_ ?_ ?_; rotate_left 2; (rintro w' ⟨s0, s1, s2⟩; go_simp; with_reducible rfl); (simp only [Rg.pq, Rg.pz, Rg.ps]; rfl)
        refine Rg.p 32 ?_ ?_ rfl rfl (fun _ _ _ h => h) (by rfl) ?_ ?_ ?_; rotate_left 2; (focus (intro w'; apply add_run; exact rfl; exact rfl; exact rfl; all_goals (first | (with_reducible rfl) | omega | (simp only [ByteArray.size_append, lit1, lit3, lit2, lit4, lit5, lit6, lit7, lit9]; omega)))); (simp only [Rg.pq, Rg.pz, Rg.ps]; rfl)
        refine Rg.p 33 ?_ ?_ rfl rfl (fun _ _ _ h => h) (by rfl) ?_ ?_ ?_; rotate_left 2; (intro w'; go_simp; with_reducible rfl); (simp only [Rg.pq, Rg.pz, Rg.ps]; rfl)
        refine Rg.p 34 ?_ ?_ rfl rfl (fun _ _ _ h => h) (by rfl) ?_ ?_ ?_; rotate_left 2; (focus (intro w'; apply add_run; exact rfl; exact rfl; exact rfl; all_goals (first | (with_reducible rfl) | omega | (simp only [ByteArray.size_append, lit1, lit3, lit2, lit4, lit5, lit6, lit7, lit9]; omega)))); (simp only [Rg.pq, Rg.pz, Rg.ps]; rfl)
        refine Rg.p 35 ?_ ?_ rfl rfl (fun _ _ _ h => h) (by rfl) ?_ ?_ ?_; rotate_left 2; (focus (intro w'; apply add_run; exact rfl; exact rfl; exact rfl; all_goals (first | (with_reducible rfl) | omega | (simp only [ByteArray.size_append, lit1, lit3, lit2, lit4, lit5, lit6, lit7, lit9]; omega)))); (simp only [Rg.pq, Rg.pz, Rg.ps]; rfl)
        refine Rg.p 36 ?_ ?_ rfl rfl (fun _ _ _ h => h) (by rfl) ?_ ?_ ?_; rotate_left 2; (intro w'; go_simp; with_reducible rfl); (simp only [Rg.pq, Rg.pz, Rg.ps]; rfl)
        refine Rg.t 37 ?_ ?_ rfl rfl (fun _ _ _ h => h) (by assumption) (by rfl) ?_ ?_ ?_; rotate_left 2; (rintro w' ⟨s0, s1, s2⟩; go_simp; with_reducible rfl); (simp only [Rg.pq, Rg.pz, Rg.ps]; rfl)
        refine Rg.p 41 ?_ ?_ rfl rfl (fun _ _ _ h => h) (by rfl) ?_ ?_ ?_; rotate_left 2; (intro w'; go_simp; with_reducible rfl); (simp only [Rg.pq, Rg.pz, Rg.ps]; rfl)
        refine Rg.t 42 ?_ ?_ rfl rfl (fun _ _ _ h => h) (by assumption) (by rfl) ?_ ?_ ?_; rotate_left 2; (rintro w' ⟨s0, s1, s2⟩; go_simp; with_reducible rfl); (simp only [Rg.pq, Rg.pz, Rg.ps]; rfl)
        refine Rg.s_call (N := some 38) rfl rfl Tryd.func42 (by kernel_rfl) rfl #[.int .i64 x.f1] (by rfl) rfl (by (try simp only [List.map_toArray, List.map_cons, List.map_nil]); first | done | rfl) ?_
        refine (rnum_int x.f1 (by have := HW.out; unfold InOk at this; omega) (by have := HW.out; unfold InOk at this; omega) _).mono ?_
        rintro e v2 ⟨rfl, hc⟩
        have HW2 := Lib.hid (Blk.below (w := (wr.alloc (.cells #[.string x.f0, .int .i64 x.f1, .int .i64 x.f2, .int .i64 x.f3] 55)).drew) HW1.out hc (Blk.lt HW1.out))
        have HX2 := Lib.hid (Blk.below (w := (wr.alloc (.cells #[.string x.f0, .int .i64 x.f1, .int .i64 x.f2, .int .i64 x.f3] 55)).drew) HX1.out hc (Blk.lt HX1.out))
        have HB2 := Lib.hid (below_next (w1 := (wr.alloc (.cells #[.string x.f0, .int .i64 x.f1, .int .i64 x.f2, .int .i64 x.f3] 55)).drew) HB1.out.drew (Nat.le_refl _) hc)
        have hS : (fun W => W.cell? ⟨wr.heap.size, 0, none⟩ = some (.string x.f0) ∧ W.cell? ⟨wr.heap.size, 1, none⟩ = some (.int .i64 x.f1) ∧ W.cell? ⟨wr.heap.size, 2, none⟩ = some (.int .i64 x.f2)) v2 := ⟨HW2.out.cell 0 rfl, HW2.out.cell 1 rfl, HW2.out.cell 2 rfl⟩
        clear hc
        refine ⟨hS, ?_⟩
        refine Rg.s_norm (a' := ?_) ?_ ?_; rotate_left; (simp only [Act.put, List.setIfInBounds_toArray, List.set_cons_zero, List.set_cons_succ]; rfl)
        refine Rg.p 39 ?_ ?_ rfl rfl (fun _ _ _ h => h) (by rfl) ?_ ?_ ?_; rotate_left 2; (focus (intro w'; apply add_run; exact rfl; exact rfl; exact rfl; all_goals (first | (with_reducible rfl) | omega | (simp only [ByteArray.size_append, lit1, lit3, lit2, lit4, lit5, lit6, lit7, lit9]; omega)))); (simp only [Rg.pq, Rg.pz, Rg.ps]; rfl)
        refine Rg.p 40 ?_ ?_ rfl rfl (fun _ _ _ h => h) (by rfl) ?_ ?_ ?_; rotate_left 2; (focus (intro w'; apply add_run; exact rfl; exact rfl; exact rfl; all_goals (first | (with_reducible rfl) | omega | (simp only [ByteArray.size_append, lit1, lit3, lit2, lit4, lit5, lit6, lit7, lit9]; omega)))); (simp only [Rg.pq, Rg.pz, Rg.ps]; rfl)
        refine Rg.s_call (N := some 43) rfl rfl Tryd.func42 (by kernel_rfl) rfl #[.int .i64 x.f2] (by rfl) rfl (by (try simp only [List.map_toArray, List.map_cons, List.map_nil]); first | done | rfl) ?_
        refine (rnum_int x.f2 (by have := HW.out; unfold InOk at this; omega) (by have := HW.out; unfold InOk at this; omega) _).mono ?_
        rintro e v3 ⟨rfl, hc⟩
        have HW3 := Lib.hid (Blk.below (w := v2) HW2.out hc (Blk.lt HW2.out))
        have HX3 := Lib.hid (Blk.below (w := v2) HX2.out hc (Blk.lt HX2.out))
        have HB3 := Lib.hid (below_next (w1 := v2) HB2.out (Nat.le_refl _) hc)
        have hS : (fun W => W.cell? ⟨wr.heap.size, 0, none⟩ = some (.string x.f0) ∧ W.cell? ⟨wr.heap.size, 1, none⟩ = some (.int .i64 x.f1) ∧ W.cell? ⟨wr.heap.size, 2, none⟩ = some (.int .i64 x.f2)) v3 := ⟨HW3.out.cell 0 rfl, HW3.out.cell 1 rfl, HW3.out.cell 2 rfl⟩
        clear hc
        refine ⟨hS, ?_⟩
        refine Rg.s_norm (a' := ?_) ?_ ?_; rotate_left; (simp only [Act.put, List.setIfInBounds_toArray, List.set_cons_zero, List.set_cons_succ]; rfl)
        refine Rg.p 44 ?_ ?_ rfl rfl (fun _ _ _ h => h) (by rfl) ?_ ?_ ?_; rotate_left 2; (focus (intro w'; apply add_run; exact rfl; exact rfl; exact rfl; all_goals (first | (with_reducible rfl) | omega | (simp only [ByteArray.size_append, lit1, lit3, lit2, lit4, lit5, lit6, lit7, lit9]; omega)))); (simp only [Rg.pq, Rg.pz, Rg.ps]; rfl)
        refine Rg.p 45 ?_ ?_ rfl rfl (fun _ _ _ h => h) (by rfl) ?_ ?_ ?_; rotate_left 2; (focus (intro w'; apply add_run; exact rfl; exact rfl; exact rfl; all_goals (first | (with_reducible rfl) | omega | (simp only [ByteArray.size_append, lit1, lit3, lit2, lit4, lit5, lit6, lit7, lit9]; omega)))); (simp only [Rg.pq, Rg.pz, Rg.ps]; rfl)
        refine Rg.p 3 ?_ ?_ rfl rfl (fun _ _ _ h => h) (by rfl) ?_ ?_ ?_; rotate_left 2; (intro w'; go_simp; with_reducible rfl); (simp only [Rg.pq, Rg.pz, Rg.ps]; rfl)
        refine Rg.s_done ?_
        clear hS x0 x0'
        go_wp2_with fail
        go_roundw
        case rel =>
          refine ⟨k + 1, _, by omega, by go_num, rfl, Lib.hid ?_, HB3, HX3⟩
          rw [flatM_take inT l0 k x HR.out, HT.out]
          simp only [bts_app, hO.out, lineT, List.flatMap_cons, List.flatMap_nil, List.append_assoc, List.append_nil]
          rfl
        case measure => simp [intOf]; omega
      · have hz0 : (x.f3 != 0) = true := by simpa using h30
        have hsz : sizeT x.f3 = ⟨#[91]⟩ ++ dec x.f3.toNat ++ ⟨#[93]⟩ := by unfold sizeT; rw [if_neg h30]
        have HT := Lib.hid (show inT x = lineT 0 [⟨#[105, 110, 32]⟩, x.f0, (⟨#[91]⟩ ++ dec x.f3.toNat ++ ⟨#[93]⟩), ⟨#[32, 102, 114, 111, 109, 32]⟩, dec x.f1.toNat, ⟨#[58, 32]⟩, dec x.f2.toNat, ⟨#[59]⟩] from by unfold inT inP; rw [hsz])
        clear hsz h30
        have zz1 : ByteArray.size ⟨#[91]⟩ = 1 := rfl
        have zz2 : ByteArray.size ⟨#[93]⟩ = 1 := rfl
        go_wp2_with fail
        refine (rnum_int x.f3 (by have := HW.out; unfold InOk at this; omega) (by have := HW.out; unfold InOk at this; omega) _).mono ?_
        rintro e v2 ⟨rfl, hc⟩
        have HW2 := Lib.hid (Blk.below HW1.out hc (Blk.lt HW1.out))
        have HX2 := Lib.hid (Blk.below HX1.out hc (Blk.lt HX1.out))
        have HB2 := Lib.hid (below_next HB1.out (Nat.le_refl _) hc)
        clear hc
        go_wp2_with fail
        have hsz2 : (⟨#[91]⟩ ++ dec x.f3.toNat ++ ⟨#[93]⟩ : ByteArray).size ≤ 22 := by simp only [ByteArray.size_append, lit1]; omega
        generalize (⟨#[91]⟩ ++ dec x.f3.toNat ++ ⟨#[93]⟩ : ByteArray) = sz at HT hsz2 ⊢
        have hS : (fun W => W.cell? ⟨wr.heap.size, 0, none⟩ = some (.string x.f0) ∧ W.cell? ⟨wr.heap.size, 1, none⟩ = some (.int .i64 x.f1) ∧ W.cell? ⟨wr.heap.size, 2, none⟩ = some (.int .i64 x.f2)) v2.drew := ⟨HW2.out.cell 0 rfl, HW2.out.cell 1 rfl, HW2.out.cell 2 rfl⟩
        refine Rg.region_steps (S := (fun W => W.cell? ⟨wr.heap.size, 0, none⟩ = some (.string x.f0) ∧ W.cell? ⟨wr.heap.size, 1, none⟩ = some (.int .i64 x.f1) ∧ W.cell? ⟨wr.heap.size, 2, none⟩ = some (.int .i64 x.f2))) [.any 0, .any 1, .any 2, .take 3, .any 4, .any 5, .any 6, .any 7, .any 8, .take 9, .any 13, .take 14, .one 10, .any 11, .any 12, .one 15, .any 16, .any 17, .any 18] (by kernel_rfl) (by kernel_rfl) hS ?_
        refine Rg.p 28 ?_ ?_ rfl rfl (fun _ _ _ h => h) (by rfl) ?_ ?_ ?_; rotate_left 2; (intro w'; go_simp; with_reducible rfl); (simp only [Rg.pq, Rg.pz, Rg.ps]; rfl)
        refine Rg.p 29 ?_ ?_ rfl rfl (fun _ _ _ h => h) (by rfl) ?_ ?_ ?_; rotate_left 2; (focus (intro w'; apply add_run; exact rfl; exact rfl; exact rfl; all_goals (first | (with_reducible rfl) | omega | (simp only [ByteArray.size_append, lit1, lit3, lit2, lit4, lit5, lit6, lit7, lit9]; omega)))); (simp only [Rg.pq, Rg.pz, Rg.ps]; rfl)
        refine Rg.p 30 ?_ ?_ rfl rfl (fun _ _ _ h => h) (by rfl) ?_ ?_ ?_; rotate_left 2; (intro w'; go_simp; with_reducible rfl); (simp only [Rg.pq, Rg.pz, Rg.ps]; rfl)
        refine Rg.t 31 ?_ ?_ rfl rfl (fun _ _ _ h => h) (by assumption) (by rfl) ?_ ?_ ?_; rotate_left 2; (rintro w' ⟨s0, s1, s2⟩; go_simp; with_reducible rfl); (simp only [Rg.pq, Rg.pz, Rg.ps]; rfl)
        refine Rg.p 32 ?_ ?_ rfl rfl (fun _ _ _ h => h) (by rfl) ?_ ?_ ?_; rotate_left 2; (focus (intro w'; apply add_run; exact rfl; exact rfl; exact rfl; all_goals (first | (with_reducible rfl) | omega | (simp only [ByteArray.size_append, lit1, lit3, lit2, lit4, lit5, lit6, lit7, lit9]; omega)))); (simp only [Rg.pq, Rg.pz, Rg.ps]; rfl)
        refine Rg.p 33 ?_ ?_ rfl rfl (fun _ _ _ h => h) (by rfl) ?_ ?_ ?_; rotate_left 2; (intro w'; go_simp; with_reducible rfl); (simp only [Rg.pq, Rg.pz, Rg.ps]; rfl)
        refine Rg.p 34 ?_ ?_ rfl rfl (fun _ _ _ h => h) (by rfl) ?_ ?_ ?_; rotate_left 2; (focus (intro w'; apply add_run; exact rfl; exact rfl; exact rfl; all_goals (first | (with_reducible rfl) | omega | (simp only [ByteArray.size_append, lit1, lit3, lit2, lit4, lit5, lit6, lit7, lit9]; omega)))); (simp only [Rg.pq, Rg.pz, Rg.ps]; rfl)
        refine Rg.p 35 ?_ ?_ rfl rfl (fun _ _ _ h => h) (by rfl) ?_ ?_ ?_; rotate_left 2; (focus (intro w'; apply add_run; exact rfl; exact rfl; exact rfl; all_goals (first | (with_reducible rfl) | omega | (simp only [ByteArray.size_append, lit1, lit3, lit2, lit4, lit5, lit6, lit7, lit9]; omega)))); (simp only [Rg.pq, Rg.pz, Rg.ps]; rfl)
        refine Rg.p 36 ?_ ?_ rfl rfl (fun _ _ _ h => h) (by rfl) ?_ ?_ ?_; rotate_left 2; (intro w'; go_simp; with_reducible rfl); (simp only [Rg.pq, Rg.pz, Rg.ps]; rfl)
        refine Rg.t 37 ?_ ?_ rfl rfl (fun _ _ _ h => h) (by assumption) (by rfl) ?_ ?_ ?_; rotate_left 2; (rintro w' ⟨s0, s1, s2⟩; go_simp; with_reducible rfl); (simp only [Rg.pq, Rg.pz, Rg.ps]; rfl)
        refine Rg.p 41 ?_ ?_ rfl rfl (fun _ _ _ h => h) (by rfl) ?_ ?_ ?_; rotate_left 2; (intro w'; go_simp; with_reducible rfl); (simp only [Rg.pq, Rg.pz, Rg.ps]; rfl)
        refine Rg.t 42 ?_ ?_ rfl rfl (fun _ _ _ h => h) (by assumption) (by rfl) ?_ ?_ ?_; rotate_left 2; (rintro w' ⟨s0, s1, s2⟩; go_simp; with_reducible rfl); (simp only [Rg.pq, Rg.pz, Rg.ps]; rfl)
        refine Rg.s_call (N := some 38) rfl rfl Tryd.func42 (by kernel_rfl) rfl #[.int .i64 x.f1] (by rfl) rfl (by (try simp only [List.map_toArray, List.map_cons, List.map_nil]); first | done | rfl) ?_
        refine (rnum_int x.f1 (by have := HW.out; unfold InOk at this; omega) (by have := HW.out; unfold InOk at this; omega) _).mono ?_
        rintro e v3 ⟨rfl, hc⟩
        have HW3 := Lib.hid (Blk.below (w := v2.drew) HW2.out hc (Blk.lt HW2.out))
        have HX3 := Lib.hid (Blk.below (w := v2.drew) HX2.out hc (Blk.lt HX2.out))
        have HB3 := Lib.hid (below_next (w1 := v2.drew) HB2.out.drew (Nat.le_refl _) hc)
        have hS : (fun W => W.cell? ⟨wr.heap.size, 0, none⟩ = some (.string x.f0) ∧ W.cell? ⟨wr.heap.size, 1, none⟩ = some (.int .i64 x.f1) ∧ W.cell? ⟨wr.heap.size, 2, none⟩ = some (.int .i64 x.f2)) v3 := ⟨HW3.out.cell 0 rfl, HW3.out.cell 1 rfl, HW3.out.cell 2 rfl⟩
        clear hc
        refine ⟨hS, ?_⟩
        refine Rg.s_norm (a' := ?_) ?_ ?_; rotate_left; (simp only [Act.put, List.setIfInBounds_toArray, List.set_cons_zero, List.set_cons_succ]; rfl)
        refine Rg.p 39 ?_ ?_ rfl rfl (fun _ _ _ h => h) (by rfl) ?_ ?_ ?_; rotate_left 2; (focus (intro w'; apply add_run; exact rfl; exact rfl; exact rfl; all_goals (first | (with_reducible rfl) | omega | (simp only [ByteArray.size_append, lit1, lit3, lit2, lit4, lit5, lit6, lit7, lit9]; omega)))); (simp only [Rg.pq, Rg.pz, Rg.ps]; rfl)
        refine Rg.p 40 ?_ ?_ rfl rfl (fun _ _ _ h => h) (by rfl) ?_ ?_ ?_; rotate_left 2; (focus (intro w'; apply add_run; exact rfl; exact rfl; exact rfl; all_goals (first | (with_reducible rfl) | omega | (simp only [ByteArray.size_append, lit1, lit3, lit2, lit4, lit5, lit6, lit7, lit9]; omega)))); (simp only [Rg.pq, Rg.pz, Rg.ps]; rfl)
        refine Rg.s_call (N := some 43) rfl rfl Tryd.func42 (by kernel_rfl) rfl #[.int .i64 x.f2] (by rfl) rfl (by (try simp only [List.map_toArray, List.map_cons, List.map_nil]); first | done | rfl) ?_
        refine (rnum_int x.f2 (by have := HW.out; unfold InOk at this; omega) (by have := HW.out; unfold InOk at this; omega) _).mono ?_
        rintro e v4 ⟨rfl, hc⟩
        have HW4 := Lib.hid (Blk.below (w := v3) HW3.out hc (Blk.lt HW3.out))
        have HX4 := Lib.hid (Blk.below (w := v3) HX3.out hc (Blk.lt HX3.out))
        have HB4 := Lib.hid (below_next (w1 := v3) HB3.out (Nat.le_refl _) hc)
        have hS : (fun W => W.cell? ⟨wr.heap.size, 0, none⟩ = some (.string x.f0) ∧ W.cell? ⟨wr.heap.size, 1, none⟩ = some (.int .i64 x.f1) ∧ W.cell? ⟨wr.heap.size, 2, none⟩ = some (.int .i64 x.f2)) v4 := ⟨HW4.out.cell 0 rfl, HW4.out.cell 1 rfl, HW4.out.cell 2 rfl⟩
        clear hc
        refine ⟨hS, ?_⟩
        refine Rg.s_norm (a' := ?_) ?_ ?_; rotate_left; (simp only [Act.put, List.setIfInBounds_toArray, List.set_cons_zero, List.set_cons_succ]; rfl)
        refine Rg.p 44 ?_ ?_ rfl rfl (fun _ _ _ h => h) (by rfl) ?_ ?_ ?_; rotate_left 2; (focus (intro w'; apply add_run; exact rfl; exact rfl; exact rfl; all_goals (first | (with_reducible rfl) | omega | (simp only [ByteArray.size_append, lit1, lit3, lit2, lit4, lit5, lit6, lit7, lit9]; omega)))); (simp only [Rg.pq, Rg.pz, Rg.ps]; rfl)
        refine Rg.p 45 ?_ ?_ rfl rfl (fun _ _ _ h => h) (by rfl) ?_ ?_ ?_; rotate_left 2; (focus (intro w'; apply add_run; exact rfl; exact rfl; exact rfl; all_goals (first | (with_reducible rfl) | omega | (simp only [ByteArray.size_append, lit1, lit3, lit2, lit4, lit5, lit6, lit7, lit9]; omega)))); (simp only [Rg.pq, Rg.pz, Rg.ps]; rfl)
        refine Rg.p 3 ?_ ?_ rfl rfl (fun _ _ _ h => h) (by rfl) ?_ ?_ ?_; rotate_left 2; (intro w'; go_simp; with_reducible rfl); (simp only [Rg.pq, Rg.pz, Rg.ps]; rfl)
        refine Rg.s_done ?_
        clear hS x0 x0'
        go_wp2_with fail
        go_roundw
        case rel =>
          refine ⟨k + 1, _, by omega, by go_num, rfl, Lib.hid ?_, HB4, HX4⟩
          rw [flatM_take inT l0 k x HR.out, HT.out]
          simp only [bts_app, hO.out, lineT, List.flatMap_cons, List.flatMap_nil, List.append_assoc, List.append_nil]
          rfl
        case measure => simp [intOf]; omega
    · have x0 : wr.cell? ⟨w.heap.size, 0, none⟩ = some (.slice A0 l0.length c0) := hX.out.cell 0 rfl
      have hO : Hid (bts o = l0.flatMap inT) := by have := hO.out; rwa [List.take_of_length_le (by omega)] at this
      go_wp2
      clear x0
      go_loopw [3, 7] (fun v i wr2 => ∃ (k2 : Nat) (o2 : ByteArray), k2 ≤ l1.length ∧ i = .int .i64 k2 ∧ v = .string o2 ∧ Hid (bts o2 = l0.flatMap inT ++ (l1.take k2).flatMap arT) ∧ Hid (Below w.heap.size w wr2) ∧ Hid (Blk wr2 w.heap.size [.slice A0 l0.length c0, .slice A1 l1.length c1, .slice A2 l2.length c2] 26)) (fun _ i _ => l1.length - (intOf i).toNat)
      case atStart => exact ⟨0, o, by omega, rfl, rfl, by simpa using hO, hB, hX⟩
      case round =>
        obtain ⟨k, o, hk, rfl, rfl, hO, hB, hX⟩ := hrel
        by_cases hlt : k < l1.length
        ·
          obtain ⟨x, hs⟩ : ∃ x, l1[k]? = some x := ⟨_, List.getElem?_eq_getElem hlt⟩
          obtain ⟨ad, rfl, h0, h1⟩ := at_T58 HC.out.2.1 (k : Int) (by omega) (by omega)
          have hrd : rd_T58 l1 (k : Int) = x := by simp [rd_T58, List.getD_eq_getElem?_getD, hs]
          rw [hrd] at h0 h1
          have h0 : wr.cell? (ad.add (k * 2)) = some (.string x.f0) := (hB.out.cell (World.block_lt_of_cell? w _ h0)).trans h0
          have h1 : wr.cell? ⟨(ad.add (k * 2)).block, (ad.add (k * 2)).off + 1, none⟩ = some (.int .i64 x.f1) := (hB.out.cell (World.block_lt_of_cell? w _ h1)).trans h1
          have hz2 := flatM_le arT l1 k x hs
          have hoz : o.size ≤ 140737488355328 := by rw [bts_size, hO.out]; have := HZ.out; simp only [List.length_append]; omega
          have HR := Lib.hid hs
          have HW := Lib.hid (HI.out.2.2.1 x (List.mem_of_getElem? hs))
          have hnm : x.f0.size ≤ 140737488351232 := HI.out.2.2.2.2.1 x (List.mem_of_getElem? hs)
          have hd1 := dec_size x.f1.toNat (by have := HW.out; unfold ArOk at this; omega)
          clear hrd hs hz2
          have HT := Lib.hid (show arT x = lineT 0 [⟨#[97, 114, 114, 97, 121, 32]⟩, x.f0, ⟨#[91]⟩, dec x.f1.toNat, ⟨#[93, 59]⟩] from rfl)
          have x1 : wr.cell? ⟨w.heap.size, 1, none⟩ = some (.slice (some ad) l1.length c1) := hX.out.cell 1 rfl
          have hS : (fun W => W.cell? ⟨w.heap.size, 1, none⟩ = some (.slice (some ad) l1.length c1) ∧ W.cell? (ad.add (k * 2)) = some (.string x.f0) ∧ W.cell? ⟨(ad.add (k * 2)).block, (ad.add (k * 2)).off + 1, none⟩ = some (.int .i64 x.f1)) wr.drew := ⟨x1, h0, h1⟩
          have HB1 := Lib.hid hB.out.drew
          have HX1 := Lib.hid (show Blk wr.drew w.heap.size _ _ from hX.out)
          have kk0 : (k : Int) < (l1.length : Int) := by omega
          have kk1 : (0 : Int) ≤ (k : Int) := by omega
          go_wp2_with fail
          refine Rg.region_steps (S := (fun W => W.cell? ⟨w.heap.size, 1, none⟩ = some (.slice (some ad) l1.length c1) ∧ W.cell? (ad.add (k * 2)) = some (.string x.f0) ∧ W.cell? ⟨(ad.add (k * 2)).block, (ad.add (k * 2)).off + 1, none⟩ = some (.int .i64 x.f1))) [.any 0, .any 1, .any 2, .take 3, .any 4, .any 5, .any 6, .take 7, .any 8, .any 9, .any 10, .take 11, .any 12, .any 13, .any 14, .take 15, .one 16, .any 17, .any 18, .any 19] (by kernel_rfl) (by kernel_rfl) hS ?_
          refine Rg.p 53 ?_ ?_ rfl rfl (fun _ _ _ h => h) (by rfl) ?_ ?_ ?_; rotate_left 2; (intro w'; go_simp; with_reducible rfl); (simp only [Rg.pq, Rg.pz, Rg.ps]; rfl)
          refine Rg.p 54 ?_ ?_ rfl rfl (fun _ _ _ h => h) (by rfl) ?_ ?_ ?_; rotate_left 2; (focus (intro w'; apply add_run; exact rfl; exact rfl; exact rfl; all_goals (first | (with_reducible rfl) | omega | (simp only [ByteArray.size_append, lit1, lit3, lit2, lit4, lit5, lit6, lit7, lit9]; omega)))); (simp only [Rg.pq, Rg.pz, Rg.ps]; rfl)
          refine Rg.p 55 ?_ ?_ rfl rfl (fun _ _ _ h => h) (by rfl) ?_ ?_ ?_; rotate_left 2; (intro w'; go_simp; with_reducible rfl); (simp only [Rg.pq, Rg.pz, Rg.ps]; rfl)
          refine Rg.t 56 ?_ ?_ rfl rfl (fun _ _ _ h => h) (by assumption) (by rfl) ?_ ?_ ?_; rotate_left 2; (rintro w' ⟨s0, s1, s2⟩; go_simp; with_reducible rfl); (simp only [Rg.pq, Rg.pz, Rg.ps]; rfl)
          refine Rg.p 57 ?_ ?_ rfl rfl (fun _ _ _ h => h) (by rfl) ?_ ?_ ?_; rotate_left 2; (intro w'; go_simp; with_reducible rfl); (simp only [Rg.pq, Rg.pz, Rg.ps]; rfl)
          refine Rg.p 58 ?_ ?_ rfl rfl (fun _ _ _ h => h) (by rfl) ?_ ?_ ?_; rotate_left 2; (intro w'; go_simp; with_reducible rfl); (simp only [Rg.pq, Rg.pz, Rg.ps]; rfl)
          refine Rg.p 59 ?_ ?_ rfl rfl (fun _ _ _ h => h) (by rfl) ?_ ?_ ?_; rotate_left 2; (intro w'; go_simp; with_reducible rfl); (simp only [Rg.pq, Rg.pz, Rg.ps]; rfl)
          refine Rg.t 60 ?_ ?_ rfl rfl (fun _ _ _ h => h) (by assumption) (by rfl) ?_ ?_ ?_; rotate_left 2; (rintro w' ⟨s0, s1, s2⟩; go_simp; with_reducible rfl); (simp only [Rg.pq, Rg.pz, Rg.ps]; rfl)
          refine Rg.p 61 ?_ ?_ rfl rfl (fun _ _ _ h => h) (by rfl) ?_ ?_ ?_; rotate_left 2; (focus (intro w'; apply add_run; exact rfl; exact rfl; exact rfl; all_goals (first | (with_reducible rfl) | omega | (simp only [ByteArray.size_append, lit1, lit3, lit2, lit4, lit5, lit6, lit7, lit9]; omega)))); (simp only [Rg.pq, Rg.pz, Rg.ps]; rfl)
          refine Rg.p 62 ?_ ?_ rfl rfl (fun _ _ _ h => h) (by rfl) ?_ ?_ ?_; rotate_left 2; (focus (intro w'; apply add_run; exact rfl; exact rfl; exact rfl; all_goals (first | (with_reducible rfl) | omega | (simp only [ByteArray.size_append, lit1, lit3, lit2, lit4, lit5, lit6, lit7, lit9]; omega)))); (simp only [Rg.pq, Rg.pz, Rg.ps]; rfl)
          refine Rg.p 63 ?_ ?_ rfl rfl (fun _ _ _ h => h) (by rfl) ?_ ?_ ?_; rotate_left 2; (intro w'; go_simp; with_reducible rfl); (simp only [Rg.pq, Rg.pz, Rg.ps]; rfl)
          refine Rg.t 64 ?_ ?_ rfl rfl (fun _ _ _ h => h) (by assumption) (by rfl) ?_ ?_ ?_; rotate_left 2; (rintro w' ⟨s0, s1, s2⟩; go_simp; with_reducible rfl); (simp only [Rg.pq, Rg.pz, Rg.ps]; rfl)
          refine Rg.p 65 ?_ ?_ rfl rfl (fun _ _ _ h => h) (by rfl) ?_ ?_ ?_; rotate_left 2; (intro w'; go_simp; with_reducible rfl); (simp only [Rg.pq, Rg.pz, Rg.ps]; rfl)
          refine Rg.p 66 ?_ ?_ rfl rfl (fun _ _ _ h => h) (by rfl) ?_ ?_ ?_; rotate_left 2; (intro w'; go_simp; with_reducible rfl); (simp only [Rg.pq, Rg.pz, Rg.ps]; rfl)
          refine Rg.p 67 ?_ ?_ rfl rfl (fun _ _ _ h => h) (by rfl) ?_ ?_ ?_; rotate_left 2; (intro w'; go_simp; with_reducible rfl); (simp only [Rg.pq, Rg.pz, Rg.ps]; rfl)
          refine Rg.t 68 ?_ ?_ rfl rfl (fun _ _ _ h => h) (by assumption) (by rfl) ?_ ?_ ?_; rotate_left 2; (rintro w' ⟨s0, s1, s2⟩; go_simp; with_reducible rfl); (simp only [Rg.pq, Rg.pz, Rg.ps]; rfl)
          refine Rg.s_call (N := some 69) rfl rfl Tryd.func42 (by kernel_rfl) rfl #[.int .i64 x.f1] (by rfl) rfl (by (try simp only [List.map_toArray, List.map_cons, List.map_nil]); first | done | rfl) ?_
          refine (rnum_int x.f1 (by have := HW.out; unfold ArOk at this; omega) (by have := HW.out; unfold ArOk at this; omega) _).mono ?_
          rintro e v2 ⟨rfl, hc⟩
          have hS2 : (fun W => W.cell? ⟨w.heap.size, 1, none⟩ = some (.slice (some ad) l1.length c1) ∧ W.cell? (ad.add (k * 2)) = some (.string x.f0) ∧ W.cell? ⟨(ad.add (k * 2)).block, (ad.add (k * 2)).off + 1, none⟩ = some (.int .i64 x.f1)) v2 := ⟨(hc.cell (World.block_lt_of_cell? _ _ hS.1)).trans hS.1, (hc.cell (World.block_lt_of_cell? _ _ hS.2.1)).trans hS.2.1, (hc.cell (World.block_lt_of_cell? _ _ hS.2.2)).trans hS.2.2⟩
          have HX2 := Lib.hid (Blk.below HX1.out hc (Blk.lt HX1.out))
          have HB2 := Lib.hid (below_next HB1.out (Nat.le_refl _) hc)
          clear hc hS
          refine ⟨hS2, ?_⟩
          refine Rg.s_norm (a' := ?_) ?_ ?_; rotate_left; (simp only [Act.put, List.setIfInBounds_toArray, List.set_cons_zero, List.set_cons_succ]; rfl)
          refine Rg.p 70 ?_ ?_ rfl rfl (fun _ _ _ h => h) (by rfl) ?_ ?_ ?_; rotate_left 2; (focus (intro w'; apply add_run; exact rfl; exact rfl; exact rfl; all_goals (first | (with_reducible rfl) | omega | (simp only [ByteArray.size_append, lit1, lit3, lit2, lit4, lit5, lit6, lit7, lit9]; omega)))); (simp only [Rg.pq, Rg.pz, Rg.ps]; rfl)
          refine Rg.p 71 ?_ ?_ rfl rfl (fun _ _ _ h => h) (by rfl) ?_ ?_ ?_; rotate_left 2; (focus (intro w'; apply add_run; exact rfl; exact rfl; exact rfl; all_goals (first | (with_reducible rfl) | omega | (simp only [ByteArray.size_append, lit1, lit3, lit2, lit4, lit5, lit6, lit7, lit9]; omega)))); (simp only [Rg.pq, Rg.pz, Rg.ps]; rfl)
          refine Rg.p 3 ?_ ?_ rfl rfl (fun _ _ _ h => h) (by rfl) ?_ ?_ ?_; rotate_left 2; (intro w'; go_simp; with_reducible rfl); (simp only [Rg.pq, Rg.pz, Rg.ps]; rfl)
          refine Rg.s_done ?_
          clear hS2 x1 h0 h1
          go_wp2_with fail
          go_roundw
          case rel =>
            refine ⟨k + 1, _, by omega, by go_num, rfl, Lib.hid ?_, HB2, HX2⟩
            rw [flatM_take arT l1 k x HR.out, HT.out]
            simp only [bts_app, hO.out, lineT, List.flatMap_cons, List.flatMap_nil, List.append_assoc, List.append_nil]
            rfl
          case measure => simp [intOf]; omega
        · have x1 : wr.cell? ⟨w.heap.size, 1, none⟩ = some (.slice A1 l1.length c1) := hX.out.cell 1 rfl
          have x2 : wr.cell? ⟨w.heap.size, 2, none⟩ = some (.slice A2 l2.length c2) := hX.out.cell 2 rfl
          have hO : Hid (bts o = l0.flatMap inT ++ l1.flatMap arT) := by have := hO.out; rwa [List.take_of_length_le (by omega)] at this
          have hoz : o.size ≤ 140737488355328 := by rw [bts_size, hO.out]; have := HZ.out; simp only [List.length_append]; omega
          go_wp2_with fail
          refine (rlines_calls 24 (by omega) l2 HI.out.2.2.2.1.1 HI.out.2.2.2.1.2 n2 A2 c2 0 (by omega) ⟨#[]⟩ rfl _ (HI.out.1.below hB.out) (Kd.C_below HC.out.2.2 hB.out) hc2 (by have := HZ.out; omega)).mono ?_
          rintro e w5 ⟨q, rfl, hq, hc⟩
          have hqz : q.size ≤ 140737488355328 := by rw [bts_size, hq]; have := HZ.out; omega
          have HQ := Lib.hid (show o ++ q = ⟨(fmtB l0 l1 l2).toArray⟩ by
            refine bts_inj ?_
            rw [bts_app, hO.out, hq]
            show _ = (fmtB l0 l1 l2).toArray.toList
            simp [fmtB])
          have HB5 := Lib.hid (below_next hB.out (Nat.le_refl _) hc)
          clear hc hq x1 x2
          go_wp2_with fail
          go_ret
          exact ⟨by rw [← HQ.out]; rfl, HB5.out⟩
end Go.Proofs.YtlhnfgnihakcfaaDoor.Ax
