import Derived.Test.YtlhnfgnihakcfaaDoorZA3
import Derived.Test.YtlhnfgnihakcfaaDoorZA4
import Derived.IntWalk
import Derived.ChangeArms
import Derived.ChangeSame
import GoSem.ClaimJoined
import Derived.DataElems
set_option linter.unusedSimpArgs false
set_option linter.unusedVariables false
namespace Go.Proofs.YtlhnfgnihakcfaaDoor.Ax
open Go.RowKit Hp Kn
open Go.Proofs.YtlhnfgnihakcfaaDoorW.PrintWords Go.Proofs.YtlhnfgnihakcfaaDoorW.PrintLast Go.Proofs.YtlhnfgnihakcfaaDoorW.PrintMore
end Go.Proofs.YtlhnfgnihakcfaaDoor.Ax
set_option linter.unusedSimpArgs false
set_option linter.unusedVariables false
namespace Go.Proofs.YtlhnfgnihakcfaaDoor.Ax
open Go.RowKit Hp Kn
open Go.Proofs.YtlhnfgnihakcfaaDoorW.PrintWords Go.Proofs.YtlhnfgnihakcfaaDoorW.PrintLast Go.Proofs.YtlhnfgnihakcfaaDoorW.PrintMore
def SAt (p : Addr) (x : S64) (A2 : Option Addr) (c2 : Nat) (A3 : Option Addr) (c3 : Nat) (A4 : Option Addr) (c4 : Nat) (W : World) : Prop :=
  W.cell? p = some (.int .i64 x.f0) ∧ W.cell? ⟨p.block, p.off + 1, none⟩ = some (.string x.f1) ∧ W.cell? ⟨p.block, p.off + 2, none⟩ = some (.slice A2 x.f2.length c2) ∧ W.cell? ⟨p.block, p.off + 3, none⟩ = some (.slice A3 x.f3.length c3) ∧ W.cell? ⟨p.block, p.off + 4, none⟩ = some (.slice A4 x.f4.length c4)
theorem SAt.below {p : Addr} {x : S64} {A2 : Option Addr} {c2 : Nat} {A3 : Option Addr} {c3 : Nat} {A4 : Option Addr} {c4 : Nat} {W W2 : World} (h : SAt p x A2 c2 A3 c3 A4 c4 W) (hb : Below W.heap.size W W2) : SAt p x A2 c2 A3 c3 A4 c4 W2 := by
  obtain ⟨s0, s1, s2, s3, s4⟩ := h
  have k : ∀ (a : Addr) v, W.cell? a = some v → W2.cell? a = some v := fun a v h => (hb.cell (World.block_lt_of_cell? W _ h)).trans h
  exact ⟨k _ _ s0, k _ _ s1, k _ _ s2, k _ _ s3, k _ _ s4⟩
def SHold (x : S64) (A2 : Option Addr) (c2 : Nat) (A3 : Option Addr) (c3 : Nat) (A4 : Option Addr) (c4 : Nat) (W : World) : Prop :=
  x.f2.length ≤ c2 ∧ Kd.C k40 W A2 x.f2.length x.f2 ∧ x.f3.length ≤ c3 ∧ Kd.C k64 W A3 x.f3.length x.f3 ∧ x.f4.length ≤ c4 ∧ Kd.C k64 W A4 x.f4.length x.f4
theorem SHold.below {x : S64} {A2 : Option Addr} {c2 : Nat} {A3 : Option Addr} {c3 : Nat} {A4 : Option Addr} {c4 : Nat} {W W2 : World} (h : SHold x A2 c2 A3 c3 A4 c4 W) (hb : Below W.heap.size W W2) : SHold x A2 c2 A3 c3 A4 c4 W2 :=
  ⟨h.1, Kd.C_below h.2.1 hb, h.2.2.1, Kd.C_below h.2.2.2.1 hb, h.2.2.2.2.1, Kd.C_below h.2.2.2.2.2 hb⟩
theorem stm_at {w : World} {ad : Addr} {xs : List S64} {y : S64} (hC : Kd.C k64 w (some ad) xs.length xs) (i : Nat) (hy : xs[i]? = some y) :
    ∃ A2 c2 A3 c3 A4 c4, SAt (ad.add (i * 5)) y A2 c2 A3 c3 A4 c4 w ∧ SHold y A2 c2 A3 c3 A4 c4 w := by
  have hl := (List.getElem?_eq_some_iff.1 hy).1
  obtain ⟨ad2, A2, c2, A3, c3, A4, c4, e, h0, h1, h2, h3, h4, l2, g2, l3, g3, l4, g4⟩ := at_T64 hC (i : Int) (by omega) (by omega)
  cases e
  have hrd : rd_T64 xs (i : Int) = y := by simp [rd_T64, List.getD_eq_getElem?_getD, hy]
  rw [hrd] at h0 h1 h2 h3 h4 l2 g2 l3 g3 l4 g4
  exact ⟨A2, c2, A3, c3, A4, c4, ⟨h0, h1, h2, h3, h4⟩, l2, g2, l3, g3, l4, g4⟩
theorem some_addrS {w : World} {A : Option Addr} {xs : List S64} (hC : Kd.C k64 w A xs.length xs) (h : 0 < xs.length) : ∃ ad, A = some ad := by
  obtain ⟨ad2, _, _, _, _, _, _, e, _⟩ := at_T64 hC 0 (by omega) (by omega)
  exact ⟨ad2, e⟩
theorem S5.up {g : Nat} {x : S64} {A2 : Option Addr} {c2 : Nat} {A3 : Option Addr} {c3 : Nat} {A4 : Option Addr} {c4 : Nat} {W W2 : World} (h : S5 g x A2 c2 A3 c3 A4 c4 W) (hb : Below W.heap.size W W2) : S5 g x A2 c2 A3 c3 A4 c4 W2 := by
  obtain ⟨s0, s1, s2, s3, s4⟩ := h
  have k : ∀ (a : Addr) v, W.cell? a = some v → W2.cell? a = some v := fun a v h => (hb.cell (World.block_lt_of_cell? W _ h)).trans h
  exact ⟨k _ _ s0, k _ _ s1, k _ _ s2, k _ _ s3, k _ _ s4⟩
end Go.Proofs.YtlhnfgnihakcfaaDoor.Ax
set_option linter.unusedSimpArgs false
set_option linter.unusedVariables false
namespace Go.Proofs.YtlhnfgnihakcfaaDoor.Ax
open Go.RowKit Hp Kn
open Go.Proofs.YtlhnfgnihakcfaaDoorW.PrintWords Go.Proofs.YtlhnfgnihakcfaaDoorW.PrintLast Go.Proofs.YtlhnfgnihakcfaaDoorW.PrintMore
def PC (g : Nat) (A0 : Option Addr) (c0 : Nat) (l0 : List S55) (A1 : Option Addr) (c1 : Nat) (l1 : List S58) (A2 : Option Addr) (c2 : Nat) (l2 : List S64) (W : World) : Prop :=
  W.cell? ⟨g, 0, none⟩ = some (.slice A0 l0.length c0) ∧ W.cell? ⟨g, 1, none⟩ = some (.slice A1 l1.length c1) ∧ W.cell? ⟨g, 2, none⟩ = some (.slice A2 l2.length c2)
theorem PC.of {W : World} {g : Nat} {A0 : Option Addr} {c0 : Nat} {l0 : List S55} {A1 : Option Addr} {c1 : Nat} {l1 : List S58} {A2 : Option Addr} {c2 : Nat} {l2 : List S64} (h : Blk W g [.slice A0 l0.length c0, .slice A1 l1.length c1, .slice A2 l2.length c2] 26) : PC g A0 c0 l0 A1 c1 l1 A2 c2 l2 W :=
  ⟨h.cell 0 rfl, h.cell 1 rfl, h.cell 2 rfl⟩
end Go.Proofs.YtlhnfgnihakcfaaDoor.Ax
set_option linter.unusedSimpArgs false
set_option linter.unusedVariables false
namespace Go.Proofs.YtlhnfgnihakcfaaDoor.Ax
open Go.RowKit Hp Kn
open Go.Proofs.YtlhnfgnihakcfaaDoorW.PrintWords Go.Proofs.YtlhnfgnihakcfaaDoorW.PrintLast Go.Proofs.YtlhnfgnihakcfaaDoorW.PrintMore
def cE : Nat → S40 → Nat
  | 0, _ => 0
  | n + 1, x => 1 + (x.f4.map (cE n)).sum
def cS : Nat → S64 → Nat
  | 0, _ => 0
  | n + 1, x => 1 + (x.f2.map (cE n)).sum + (x.f3.map (cS n)).sum + (x.f4.map (cS n)).sum
def sumN {α : Type} (f : α → Nat) (l : List α) : Int := ((l.map f).sum : Nat)
theorem sumN_take {α : Type} (f : α → Nat) (l : List α) (k : Nat) (x : α) (h : l[k]? = some x) : sumN f (l.take (k + 1)) = sumN f (l.take k) + f x := by
  unfold sumN
  rw [List.take_add_one, h]
  simp
theorem sumN_zero {α : Type} (l : List α) (f : α → Nat) (h : ∀ x, f x = 0) : sumN f l = 0 := by
  unfold sumN
  induction l with
  | nil => rfl
  | cons a l ih => simp only [List.map_cons, List.sum_cons, h a]; omega
theorem sumN_one {α : Type} (l : List α) (f g : α → Nat) (h : ∀ x, f x = 1 + g x) : sumN f l = l.length + sumN g l := by
  unfold sumN
  induction l with
  | nil => rfl
  | cons a l ih => simp only [List.map_cons, List.sum_cons, h a, List.length_cons]; omega
structure GoodE (l : List S40) (left r : Int) : Prop where
  le : r ≤ left
  lo : left < 0 → left - 140737488355328 ≤ r
  hi : 0 ≤ left → -140737488355328 ≤ r
  sum : 0 ≤ r → ∀ n, sumN (cE n) l + r ≤ left
def FewE (l : List S40) : Prop := ∀ (level left : Int) (A : Option Addr) (c : Nat) (w : World), 1 ≤ level → level ≤ 41 → -1152921504606846976 ≤ left → left ≤ 1152921504606846976 → Kd.C k40 w A l.length l → l.length ≤ c →
  Calls Tryd.prog 49 #[.slice A l.length c, .int .i64 level, .int .i64 left] w fun e w' => ∃ r, e = .returned (.int .i64 r) ∧ GoodE l left r ∧ Below w.heap.size w w'
theorem goodE_end {l : List S40} {left v : Int} (hl : l.length ≤ 140737488351232) (h1 : v ≤ left - l.length) (h2 : left < 0 → left - 140737488355328 ≤ v) (h3 : 0 ≤ left → -140737488355328 ≤ v) (h4 : 0 ≤ v → ∀ n, sumN (fun x => (x.f4.map (cE n)).sum) l + l.length + v ≤ left) : GoodE l left v := by
  refine ⟨by omega, h2, h3, fun hv n => ?_⟩
  cases n with
  | zero => rw [sumN_zero l (cE 0) (fun _ => rfl)]; omega
  | succ n =>
    have := h4 hv n
    rw [sumN_one l (cE (n + 1)) (fun x => (x.f4.map (cE n)).sum) (fun _ => rfl)]
    omega
set_option maxRecDepth 100000 in
set_option maxHeartbeats 1000000 in
theorem fewE_step (l : List S40) (hlen : l.length ≤ 140737488351232) (IH : ∀ x ∈ l, FewE x.f4) : FewE l := by
  intro level left A c w hv0 hv1 hl0 hl1 hC hc
  have HC := Lib.hid hC
  have HI := Lib.hid IH
  clear hC IH
  go_enter Tryd.func49, Tryd.ntmps49
  go_wp2
  go_loopw [2, 7] (fun v i wr => ∃ (k : Nat) (v' : Int), k ≤ l.length ∧ i = .int .i64 k ∧ v = .int .i64 v' ∧ v' ≤ left - l.length ∧ -1152921504606846976 - 140737488355328 ≤ v' ∧ Hid ((left < 0 → left - 140737488355328 ≤ v') ∧ (0 ≤ left → -140737488355328 ≤ v') ∧ (0 ≤ v' → ∀ n, sumN (fun x => (x.f4.map (cE n)).sum) (l.take k) + l.length + v' ≤ left)) ∧ Hid (Below w.heap.size w wr)) (fun _ i _ => l.length - (intOf i).toNat)
  case atStart => exact ⟨0, left - l.length, by omega, rfl, by first | rfl | go_num, by omega, by omega, Lib.hid ⟨by omega, by omega, fun h n => by rw [show sumN (fun x : S40 => (x.f4.map (cE n)).sum) (l.take 0) = 0 from rfl]; omega⟩, Lib.hid (Below.refl _ _)⟩
  case round =>
    obtain ⟨k, v, hk, rfl, rfl, hv, hvl, hq, hb⟩ := hrel
    by_cases hlt : k < l.length
    · by_cases hpos : 0 ≤ v
      · by_cases hlev : level = 41
        · go_wp2_with fail
          go_ret
          exact ⟨-1, rfl, ⟨by omega, by omega, by omega, by omega⟩, hb.out⟩
        · have hlev2 : level ≤ 40 := by omega
          have hi1 : (k : Int) < (l.length : Int) := by omega
          obtain ⟨ad, rfl⟩ := some_addr HC.out (by omega)
          obtain ⟨x, hx⟩ : ∃ x, l[k]? = some x := ⟨_, List.getElem?_eq_getElem hlt⟩
          obtain ⟨xA, xc, xE, xl, xC⟩ := kid_at (Kd.C_below HC.out hb.out) k hx
          obtain ⟨x0, x1, x2, x3, x4⟩ := xE
          have HX := Lib.hid (And.intro (HI.out x (List.mem_of_getElem? hx)) (And.intro hx (And.intro xl xC)))
          clear hx xl xC
          go_wp2_with fail
          refine (HX.out.1 (level + 1) v xA xc wr (by omega) (by omega) (by omega) (by omega) HX.out.2.2.2 HX.out.2.2.1).mono ?_
          rintro e w2 ⟨r, rfl, hg, hc2⟩
          have HG := Lib.hid hg
          have HD := Lib.hid (below_next hb.out (Nat.le_refl _) hc2)
          have r1 := hg.le
          have r2 := hg.hi hpos
          clear hc2 hg x0 x1 x2 x3 x4
          go_wp2_with fail
          go_roundw
          case rel =>
            refine ⟨k + 1, r, by omega, by go_num, rfl, by omega, by omega, Lib.hid ⟨by have := hq.out.1; omega, by omega, fun hr n => ?_⟩, HD⟩
            have h1 := HG.out.sum hr n
            have h2 := hq.out.2.2 hpos n
            rw [sumN_take _ l k x HX.out.2.1]
            unfold sumN at h1 h2 ⊢
            omega
          case measure => simp [intOf]; omega
      · go_wp2_with fail
        go_ret
        exact ⟨v, rfl, goodE_end hlen hv hq.out.1 hq.out.2.1 (fun h => absurd h (by omega)), hb.out⟩
    · have hkl : k = l.length := by omega
      go_wp2_with fail
      go_ret
      refine ⟨v, rfl, goodE_end hlen hv hq.out.1 hq.out.2.1 (fun h n => ?_), hb.out⟩
      have := hq.out.2.2 h n
      rw [List.take_of_length_le (by omega)] at this
      exact this
theorem fewE_of {x : S40} (hO : OkE x) : FewE x.f4 := by
  induction hO with
  | mk h0 h1 h3 h4 hk ih => exact fewE_step _ h4 ih
theorem fewE_calls (l : List S40) (hO : ∀ x ∈ l, OkE x) (hlen : l.length ≤ 140737488351232) : FewE l := fewE_step l hlen (fun x hx => fewE_of (hO x hx))
structure GoodS (level : Int) (l : List S64) (left r : Int) : Prop where
  le : r ≤ left
  lo : left < 0 → left - 140737488355328 ≤ r
  hi : 0 ≤ left → -(42 - level) * 281474976710656 ≤ r
  sum : 0 ≤ r → ∀ n, sumN (cS n) l + r ≤ left
def FewS (l : List S64) : Prop := ∀ (level left : Int) (A : Option Addr) (c : Nat) (w : World), 1 ≤ level → level ≤ 41 → -1152921504606846976 ≤ left → left ≤ 1152921504606846976 → Kd.C k64 w A l.length l → l.length ≤ c →
  Calls Tryd.prog 26 #[.slice A l.length c, .int .i64 level, .int .i64 left] w fun e w' => ∃ r, e = .returned (.int .i64 r) ∧ GoodS level l left r ∧ Below w.heap.size w w'
theorem goodS_end {level : Int} {l : List S64} {left v : Int} (hl : l.length ≤ 140737488351232) (h1 : v ≤ left - l.length) (h2 : left < 0 → left - 140737488355328 ≤ v) (h3 : 0 ≤ left → -(42 - level) * 281474976710656 ≤ v) (h4 : 0 ≤ v → ∀ n, sumN (fun x => (x.f2.map (cE n)).sum + (x.f3.map (cS n)).sum + (x.f4.map (cS n)).sum) l + l.length + v ≤ left) : GoodS level l left v := by
  refine ⟨by omega, h2, h3, fun hv n => ?_⟩
  cases n with
  | zero => rw [sumN_zero l (cS 0) (fun _ => rfl)]; omega
  | succ n =>
    have := h4 hv n
    rw [sumN_one l (cS (n + 1)) (fun x => (x.f2.map (cE n)).sum + (x.f3.map (cS n)).sum + (x.f4.map (cS n)).sum) (fun _ => by simp only [cS]; omega)]
    omega
set_option maxRecDepth 100000 in
set_option maxHeartbeats 2000000 in
theorem fewS_step (l : List S64) (hO : ∀ x ∈ l, OkS x) (hlen : l.length ≤ 140737488351232) (IH : ∀ x ∈ l, FewS x.f3 ∧ FewS x.f4) : FewS l := by
  intro level left A c w hv0 hv1 hl0 hl1 hC hc
  have HC := Lib.hid hC
  have HI := Lib.hid IH
  have HO := Lib.hid hO
  clear hC IH hO
  go_enter Tryd.func26, Tryd.ntmps26
  go_wp2
  go_loopw [2, 7] (fun v i wr => ∃ (k : Nat) (v' : Int), k ≤ l.length ∧ i = .int .i64 k ∧ v = .int .i64 v' ∧ v' ≤ left - l.length ∧ -1152921504606846976 - 140737488355328 ≤ v' ∧ Hid ((left < 0 → left - 140737488355328 ≤ v') ∧ (0 ≤ left → -(42 - level) * 281474976710656 ≤ v') ∧ (0 ≤ v' → ∀ n, sumN (fun x => (x.f2.map (cE n)).sum + (x.f3.map (cS n)).sum + (x.f4.map (cS n)).sum) (l.take k) + l.length + v' ≤ left)) ∧ Hid (Below w.heap.size w wr)) (fun _ i _ => l.length - (intOf i).toNat)
  case atStart => exact ⟨0, left - l.length, by omega, rfl, by first | rfl | go_num, by omega, by omega, Lib.hid ⟨by omega, by omega, fun h n => by rw [show sumN (fun x : S64 => (x.f2.map (cE n)).sum + (x.f3.map (cS n)).sum + (x.f4.map (cS n)).sum) (l.take 0) = 0 from rfl]; omega⟩, Lib.hid (Below.refl _ _)⟩
  case round =>
    obtain ⟨k, v, hk, rfl, rfl, hv, hvl, hq, hb⟩ := hrel
    by_cases hlt : k < l.length
    · by_cases hpos : 0 ≤ v
      · by_cases hlev : level = 41
        · go_wp2_with fail
          go_ret
          exact ⟨-1, rfl, ⟨by omega, by omega, by omega, by omega⟩, hb.out⟩
        · have hlev2 : level ≤ 40 := by omega
          have hi1 : (k : Int) < (l.length : Int) := by omega
          obtain ⟨ad, rfl⟩ := some_addrS HC.out (by omega)
          obtain ⟨x, hx⟩ : ∃ x, l[k]? = some x := ⟨_, List.getElem?_eq_getElem hlt⟩
          obtain ⟨A2, c2, A3, c3, A4, c4, xE, xH⟩ := stm_at (Kd.C_below HC.out hb.out) k hx
          have HX := Lib.hid (And.intro (HI.out x (List.mem_of_getElem? hx)) (And.intro hx xH))
          have HOx := Lib.hid (show FewE x.f2 by have := HO.out x (List.mem_of_getElem? hx); cases this with | mk _ l2 _ _ k2 _ _ => exact fewE_calls _ k2 l2)
          have HS := Lib.hid xE
          clear hx xH xE
          obtain ⟨x0, x1, x2, x3, x4⟩ := HS.out
          go_wp2_with fail
          refine (HOx.out (level + 1) v A2 c2 wr (by omega) (by omega) (by omega) (by omega) HX.out.2.2.2.1 HX.out.2.2.1).mono ?_
          rintro e w2 ⟨r, rfl, hg, hc2⟩
          have HG := Lib.hid hg
          have HD := Lib.hid hc2
          have HS2 := Lib.hid (HS.out.below hc2)
          have r1 := hg.le
          have r2 := hg.hi hpos
          clear hc2 hg x0 x1 x2 x3 x4
          obtain ⟨x0, x1, x2, x3, x4⟩ := HS2.out
          go_wp2_with fail
          refine (HX.out.1.1 (level + 1) r A3 c3 w2 (by omega) (by omega) (by omega) (by omega) (Kd.C_below HX.out.2.2.2.2.2.1 HD.out) HX.out.2.2.2.2.1).mono ?_
          rintro e w3 ⟨r3, rfl, hg, hc2⟩
          have HG3 := Lib.hid hg
          have HD3 := Lib.hid (below_next HD.out (Nat.le_refl _) hc2)
          have HS3 := Lib.hid (HS2.out.below hc2)
          have t1 := hg.le
          have t2 : -(41 - level) * 281474976710656 ≤ r3 ∨ (r < 0 ∧ r - 140737488355328 ≤ r3) := by
            by_cases h : 0 ≤ r
            · left; have := hg.hi h; omega
            · right; exact ⟨by omega, hg.lo (by omega)⟩
          clear hc2 hg x0 x1 x2 x3 x4
          obtain ⟨x0, x1, x2, x3, x4⟩ := HS3.out
          go_wp2_with fail
          refine (HX.out.1.2 (level + 1) r3 A4 c4 w3 (by omega) (by omega) (by omega) (by omega) (Kd.C_below HX.out.2.2.2.2.2.2.2 HD3.out) HX.out.2.2.2.2.2.2.1).mono ?_
          rintro e w4 ⟨r4, rfl, hg, hc2⟩
          have HG4 := Lib.hid hg
          have HD4 := Lib.hid (below_next hb.out (Nat.le_refl _) (below_next HD3.out (Nat.le_refl _) hc2))
          have u1 := hg.le
          have u2 : -(41 - level) * 281474976710656 ≤ r4 ∨ (r3 < 0 ∧ r3 - 140737488355328 ≤ r4) := by
            by_cases h : 0 ≤ r3
            · left; have := hg.hi h; omega
            · right; exact ⟨by omega, hg.lo (by omega)⟩
          clear hc2 hg x0 x1 x2 x3 x4
          go_wp2_with fail
          go_roundw
          case rel =>
            refine ⟨k + 1, r4, by omega, by go_num, rfl, by omega, by omega, Lib.hid ⟨by have := hq.out.1; omega, by omega, fun hr n => ?_⟩, HD4⟩
            have h1 := HG.out.sum (by omega) n
            have h2 := hq.out.2.2 hpos n
            have h3 := HG3.out.sum (by omega) n
            have h4 := HG4.out.sum hr n
            rw [sumN_take _ l k x HX.out.2.1]
            unfold sumN at h1 h2 h3 h4 ⊢
            omega
          case measure => simp [intOf]; omega
      · go_wp2_with fail
        go_ret
        exact ⟨v, rfl, goodS_end hlen hv hq.out.1 hq.out.2.1 (fun h => absurd h (by omega)), hb.out⟩
    · have hkl : k = l.length := by omega
      go_wp2_with fail
      go_ret
      refine ⟨v, rfl, goodS_end hlen hv hq.out.1 hq.out.2.1 (fun h n => ?_), hb.out⟩
      have := hq.out.2.2 h n
      rw [List.take_of_length_le (by omega)] at this
      exact this
theorem fewS_of {x : S64} (hO : OkS x) : FewS x.f3 ∧ FewS x.f4 := by
  induction hO with
  | mk h1 h2 h3 h4 k2 k3 k4 ih3 ih4 => exact ⟨fewS_step _ k3 h3 ih3, fewS_step _ k4 h4 ih4⟩
theorem fewS_calls (l : List S64) (hO : ∀ x ∈ l, OkS x) (hlen : l.length ≤ 140737488351232) : FewS l := fewS_step l hO hlen (fun x hx => fewS_of (hO x hx))
set_option maxRecDepth 100000 in
theorem few_calls (A0 : Option Addr) (c0 : Nat) (l0 : List S55) (A1 : Option Addr) (c1 : Nat) (l1 : List S58) (A2 : Option Addr) (c2 : Nat) (l2 : List S64) (w : World) (hA2 : Kd.C k64 w A2 l2.length l2) (hAl2 : l2.length ≤ c2) (n2 : l2.length ≤ 140737488351232) (hO : ∀ x ∈ l2, OkS x) :
    Calls Tryd.prog 10 #[.agg #[.slice A0 l0.length c0, .slice A1 l1.length c1, .slice A2 l2.length c2], .int .i64 200] w fun e w' => ∃ b : Bool, e = .returned (.bool b) ∧ (b = true → l0.length ≤ 40 ∧ l1.length ≤ 40 ∧ ∀ n, (l2.map (cS n)).sum ≤ 200) ∧ Below w.heap.size w w' := by
  have HC := Lib.hid hA2
  have HO := Lib.hid hO
  clear hA2 hO
  have HB := Lib.hid ((Below.refl w.heap.size w).alloc (Nat.le_refl _) (.cells #[.slice A0 l0.length c0, .slice A1 l1.length c1, .slice A2 l2.length c2] 26))
  by_cases q0 : l0.length ≤ 40
  · by_cases q1 : l1.length ≤ 40
    · have t0 : decide ((l0.length : Int) ≤ 40) = true := by simp; omega
      have t1 : decide ((l1.length : Int) ≤ 40) = true := by simp; omega
      go_enter Tryd.func10, Tryd.ntmps10
      go_wp2_with fail
      refine (fewS_calls l2 HO.out n2 1 200 A2 c2 _ (by omega) (by omega) (by omega) (by omega) (Kd.C_below HC.out HB.out) hAl2).mono ?_
      rintro e w2 ⟨r, rfl, hg, hc⟩
      have HG := Lib.hid hg
      have HD := Lib.hid (below_next HB.out (Nat.le_refl _) hc)
      clear hg hc
      go_wp2_with fail
      go_ret
      refine ⟨_, rfl, fun h => ⟨q0, q1, fun n => ?_⟩, HD.out⟩
      have h0 : 0 ≤ r := by simpa using h
      have := HG.out.sum h0 n
      unfold sumN at this
      omega
    · have t0 : decide ((l0.length : Int) ≤ 40) = true := by simp; omega
      have t1 : decide ((l1.length : Int) ≤ 40) = false := by simp; omega
      go_enter Tryd.func10, Tryd.ntmps10
      go_wp2_with fail
      go_ret
      exact ⟨false, rfl, (by intro h; cases h), HB.out⟩
  · have t0 : decide ((l0.length : Int) ≤ 40) = false := by simp; omega
    go_enter Tryd.func10, Tryd.ntmps10
    go_wp2_with fail
    go_ret
    exact ⟨false, rfl, (by intro h; cases h), HB.out⟩
end Go.Proofs.YtlhnfgnihakcfaaDoor.Ax
set_option linter.unusedSimpArgs false
set_option linter.unusedVariables false
namespace Go.Proofs.YtlhnfgnihakcfaaDoor.Ax
open Go.RowKit Hp Kn
open Go.Proofs.YtlhnfgnihakcfaaDoorW.PrintWords Go.Proofs.YtlhnfgnihakcfaaDoorW.PrintLast Go.Proofs.YtlhnfgnihakcfaaDoorW.PrintMore
theorem list_of {α : Type} {Q : Nat → α → Prop} : ∀ n : Nat, (∀ i, i < n → ∃ p, Q i p) → ∃ l : List α, l.length = n ∧ ∀ i p, l[i]? = some p → Q i p
  | 0, _ => ⟨[], rfl, fun i p h => by simp at h⟩
  | n + 1, h => by
    obtain ⟨l, hl, hq⟩ := list_of n (fun i hi => h i (by omega))
    obtain ⟨p, hp⟩ := h n (by omega)
    refine ⟨l ++ [p], by simp [hl], fun i q hi => ?_⟩
    rcases Nat.lt_or_ge i n with hlt | hge
    · rw [List.getElem?_append_left (by omega)] at hi
      exact hq i q hi
    · rw [List.getElem?_append_right (by omega)] at hi
      obtain rfl : i = n := by
        have := (List.getElem?_eq_some_iff.1 hi).1
        simp at this
        omega
      rw [hl] at hi
      simp at hi
      subst hi
      exact hp
theorem weightsAll_mem1 {H : Type} {P : Program} {e : TypeId} : ∀ {l : List (DataW H)} {d : DataW H}, d ∈ l → (DataW.weightsAll P e l).all (· ≤ reachBytes) = true → (d.weights P e).all (· ≤ reachBytes) = true
  | [], _, h, _ => by cases h
  | a :: l, d, h, hw => by
    simp only [DataW.weightsAll, List.all_append, Bool.and_eq_true] at hw
    rcases List.mem_cons.1 h with rfl | h
    · exact hw.1
    · exact weightsAll_mem1 h hw.2
theorem weights_head {H : Type} {P : Program} {t : TypeId} {ts : List TypeId} {d : DataW H} {ds : List (DataW H)} (h : (DataW.weightsEach P (t :: ts) (d :: ds)).all (· ≤ reachBytes) = true) : (d.weights P t).all (· ≤ reachBytes) = true ∧ (DataW.weightsEach P ts ds).all (· ≤ reachBytes) = true := by
  simpa only [DataW.weightsEach, List.all_append, Bool.and_eq_true] using h
theorem weights_agg {H : Type} {P : Program} {t : TypeId} {fs : Array Field} (ht : P.underlying t = some (.struct fs)) (parts : List (DataW H)) : (DataW.agg parts).weights P t = DataW.weightsEach P (fs.toList.map (·.type)) parts := by
  simp only [DataW.weights, ht]
theorem weights_slice {H : Type} {P : Program} {t e : TypeId} (ht : P.underlying t = some (.slice e)) (elems spare : List (DataW H)) : (DataW.slice elems spare).weights P t = (elems.length + spare.length) * P.bytesOf e :: (DataW.weightsAll P e elems ++ DataW.weightsAll P e spare) := by
  simp only [DataW.weights, ht]
section
variable {H : Type} {enc : TypeId × Value → H} {w : World} {base : Nat} {sp : Nat → Bool} {held : Bool}
theorem fld {P : Program} {n k off : Nat} {t : TypeId} {cs sub : List Value} {fs : Array Field} {xs : List (DataW H × List MemPlace)} {y : DataW H × List MemPlace} (i : Nat) {f : Field} (hf : ∀ (i : Nat) (f : Field), fs[i]? = some f → DataW.trod enc P w base sp held n f.type ((cs.drop f.offset).take (P.cellsOf f.type)) = xs[i]?) (hi : fs[i]? = some f) (ht : f.type = t) (ho : f.offset = off) (e : P.cellsOf t = k) (hs : (cs.drop off).take k = sub) (hy : xs[i]? = some y) : DataW.trod enc P w base sp held n t sub = some y := by
  have := hf i f hi
  rw [ht, ho, e, hs, hy] at this
  exact this
set_option maxRecDepth 100000 in
theorem open_row {α : Type} (d : Kd α) (ok : α → Prop) {t e : TypeId} {fuel b : Nat} {cs : List Value} {x : DataW H × List MemPlace} (hsz : Tryd.prog.cellsOf e = d.sz) (ht : Tryd.prog.underlying t = some (.slice e)) (hby : Tryd.prog.bytesOf e = b + 1)
    (h : DataW.trod enc Tryd.prog w base sp held fuel t cs = some x) (hw : (x.1.weights Tryd.prog t).all (· ≤ reachBytes) = true)
    (ih : ∀ m, m < fuel → ∀ (cs' : List Value) (y : DataW H × List MemPlace), DataW.trod enc Tryd.prog w base sp held m e cs' = some y → (y.1.weights Tryd.prog e).all (· ≤ reachBytes) = true → ∃ p, d.K w p cs' ∧ ok p) :
    ∃ (A : Option Addr) (l : List α) (c : Nat), cs = [.slice A l.length c] ∧ l.length ≤ c ∧ Kd.C d w A l.length l ∧ (∀ p ∈ l, ok p) ∧ l.length ≤ 140737488351232 := by
  rcases DataW.trod_slice ht h with ⟨rfl, rfl⟩ | ⟨a, len, cap, elems, rest, n, rfl, rfl, rfl, hb, hlc, hcm, hel, hget, _, _⟩
  · exact ⟨none, [], 0, rfl, Nat.le_refl _, Kd.C_nil d w, by simp, by simp⟩
  · rw [weights_slice ht] at hw
    simp only [List.all_cons, List.all_append, Bool.and_eq_true, decide_eq_true_eq, List.length_map] at hw
    obtain ⟨hw0, hw1, _⟩ := hw
    have hbound : len ≤ 140737488351232 := by
      rw [hby] at hw0
      have h1 : (elems.length + rest.length) * 1 ≤ (elems.length + rest.length) * (b + 1) := Nat.mul_le_mul_left _ (by omega)
      have h2 : reachBytes = 140737488351232 := rfl
      omega
    obtain ⟨l, hl, hq⟩ := list_of (Q := fun i p => ∃ cs', cs'.length = d.sz ∧ d.K w p cs' ∧ ok p ∧ ∀ j u, cs'[j]? = some u → w.cell? (a.add (i * d.sz + j)) = some u) len (fun i hi => by
      have h1 := hget i hi
      obtain ⟨y, hy⟩ : ∃ y, elems[i]? = some y := ⟨_, List.getElem?_eq_getElem (by omega)⟩
      rw [hy, Option.bind_eq_some_iff] at h1
      obtain ⟨cs', hc, htr⟩ := h1
      obtain ⟨p, hp, hok⟩ := ih n (by omega) cs' y htr (weightsAll_mem1 (List.mem_map.2 ⟨y, List.mem_of_getElem? hy, rfl⟩) hw1)
      obtain ⟨_, hlen, hcell⟩ := World.cells?_some hc
      refine ⟨p, cs', by rw [← hsz]; exact hlen, hp, hok, fun j u hj => ?_⟩
      have hjl := (List.getElem?_eq_some_iff.1 hj).1
      have := hcell j (by omega)
      rw [hj, hsz] at this
      rw [← this]
      congr 1
      exact (Addr.add_add a (i * d.sz) j).symm)
    subst hl
    refine ⟨some a, l, cap, rfl, hlc, ⟨rfl, by omega, fun _ => ⟨a, rfl, fun j p hj => ?_⟩⟩, fun p hp => ?_, hbound⟩
    · obtain ⟨cs', h1, h2, h3, h4⟩ := hq j p hj
      exact ⟨cs', h1, h2, h4⟩
    · obtain ⟨i, hi⟩ := List.getElem?_of_mem hp
      obtain ⟨_, _, _, h3, _⟩ := hq i p hi
      exact h3
theorem wf_u64 {n : Int} (h : (Lit.int .u64 n).wf = true) : 0 ≤ n ∧ n < 18446744073709551616 := by
  have h : IntKind.min .u64 ≤ n ∧ n ≤ IntKind.max .u64 := by simpa only [Lit.wf, Bool.and_eq_true, decide_eq_true_eq] using h
  have e0 : IntKind.min .u64 = 0 := by decide
  have e1 : IntKind.max .u64 = 18446744073709551615 := by decide
  rw [e0, e1] at h
  omega
theorem wf_i64 {n : Int} (h : (Lit.int .i64 n).wf = true) : -9223372036854775808 ≤ n ∧ n ≤ 9223372036854775807 := by
  have h : IntKind.min .i64 ≤ n ∧ n ≤ IntKind.max .i64 := by simpa only [Lit.wf, Bool.and_eq_true, decide_eq_true_eq] using h
  have e0 : IntKind.min .i64 = -9223372036854775808 := by decide
  have e1 : IntKind.max .i64 = 9223372036854775807 := by decide
  rw [e0, e1] at h
  omega
theorem w_str {s : ByteArray} {t : TypeId} (h : ((DataW.lit (H := H) (.string s.data.toList)).weights Tryd.prog t).all (· ≤ reachBytes) = true) : s.size ≤ 140737488351232 := by
  simp only [DataW.weights, List.all_cons, List.all_nil, Bool.and_true, decide_eq_true_eq] at h
  have h2 : reachBytes = 140737488351232 := rfl
  rw [h2, Array.length_toList] at h
  exact h
set_option maxRecDepth 100000 in
theorem open_E : ∀ (fuel : Nat) (cs : List Value) (x : DataW H × List MemPlace), DataW.trod enc Tryd.prog w base sp held fuel 40 cs = some x → (x.1.weights Tryd.prog 40).all (· ≤ reachBytes) = true → ∃ X : S40, k40.K w X cs ∧ OkE X := by
  intro fuel
  induction fuel using Nat.strongRecOn with
  | _ fuel ih =>
    intro cs x h hw
    obtain ⟨xs, n, rfl, rfl, hl, hlen, hf⟩ := DataW.trod_struct Tryd.underlying40 h
    rw [show Tryd.prog.cellsOf 40 = 5 by kernel_rfl] at hl
    match xs, hlen with
    | [y0, y1, y2, y3, y4], _ =>
    match cs, hl with
    | [c0, c1, c2, c3, c4], _ =>
    have g0 : DataW.trod enc Tryd.prog w base sp held n 3 [c0] = some y0 := fld (k := 1) 0 hf rfl rfl rfl (by kernel_rfl) rfl rfl
    have g1 : DataW.trod enc Tryd.prog w base sp held n 3 [c1] = some y1 := fld (k := 1) 1 hf rfl rfl rfl (by kernel_rfl) rfl rfl
    have g2 : DataW.trod enc Tryd.prog w base sp held n 37 [c2] = some y2 := fld (k := 1) 2 hf rfl rfl rfl (by kernel_rfl) rfl rfl
    have g3 : DataW.trod enc Tryd.prog w base sp held n 9 [c3] = some y3 := fld (k := 1) 3 hf rfl rfl rfl (by kernel_rfl) rfl rfl
    have g4 : DataW.trod enc Tryd.prog w base sp held n 38 [c4] = some y4 := fld (k := 1) 4 hf rfl rfl rfl (by kernel_rfl) rfl rfl
    rw [weights_agg Tryd.underlying40] at hw
    simp only [List.map_cons, List.map_nil, DataW.weightsEach, List.all_append, Bool.and_eq_true] at hw
    obtain ⟨_, _, _, w3, w4, _⟩ := hw
    obtain ⟨n0, e0, rfl, _⟩ := DataW.trod_int Tryd.underlying3 g0
    obtain ⟨n1, e1, rfl, _⟩ := DataW.trod_int Tryd.underlying3 g1
    obtain ⟨n2, e2, rfl, r2⟩ := DataW.trod_int Tryd.underlying37 g2
    obtain ⟨s, e3, rfl, _⟩ := DataW.trod_string Tryd.underlying9 g3
    obtain ⟨A, l, c, e4, hlc, hC, hok, hb⟩ := open_row k40 OkE (b := 63) (by kernel_rfl) Tryd.underlying38 (by kernel_rfl) g4 w4 (fun m hm cs' y hy hwy => ih m (by omega) cs' y hy hwy)
    cases e0; cases e1; cases e2; cases e3; cases e4
    exact ⟨⟨n0, n1, n2, s, l⟩, k40_mk w ⟨n0, n1, n2, s, l⟩ hlc hC, .mk (wf_u64 r2).1 (wf_u64 r2).2 (w_str w3) hb hok⟩
set_option maxRecDepth 100000 in
theorem open_S : ∀ (fuel : Nat) (cs : List Value) (x : DataW H × List MemPlace), DataW.trod enc Tryd.prog w base sp held fuel 64 cs = some x → (x.1.weights Tryd.prog 64).all (· ≤ reachBytes) = true → ∃ X : S64, k64.K w X cs ∧ OkS X := by
  intro fuel
  induction fuel using Nat.strongRecOn with
  | _ fuel ih =>
    intro cs x h hw
    obtain ⟨xs, n, rfl, rfl, hl, hlen, hf⟩ := DataW.trod_struct Tryd.underlying64 h
    rw [show Tryd.prog.cellsOf 64 = 5 by kernel_rfl] at hl
    match xs, hlen with
    | [y0, y1, y2, y3, y4], _ =>
    match cs, hl with
    | [c0, c1, c2, c3, c4], _ =>
    have g0 : DataW.trod enc Tryd.prog w base sp held n 3 [c0] = some y0 := fld (k := 1) 0 hf rfl rfl rfl (by kernel_rfl) rfl rfl
    have g1 : DataW.trod enc Tryd.prog w base sp held n 9 [c1] = some y1 := fld (k := 1) 1 hf rfl rfl rfl (by kernel_rfl) rfl rfl
    have g2 : DataW.trod enc Tryd.prog w base sp held n 38 [c2] = some y2 := fld (k := 1) 2 hf rfl rfl rfl (by kernel_rfl) rfl rfl
    have g3 : DataW.trod enc Tryd.prog w base sp held n 24 [c3] = some y3 := fld (k := 1) 3 hf rfl rfl rfl (by kernel_rfl) rfl rfl
    have g4 : DataW.trod enc Tryd.prog w base sp held n 24 [c4] = some y4 := fld (k := 1) 4 hf rfl rfl rfl (by kernel_rfl) rfl rfl
    rw [weights_agg Tryd.underlying64] at hw
    simp only [List.map_cons, List.map_nil, DataW.weightsEach, List.all_append, Bool.and_eq_true] at hw
    obtain ⟨_, w1, w2, w3, w4, _⟩ := hw
    obtain ⟨n0, e0, rfl, _⟩ := DataW.trod_int Tryd.underlying3 g0
    obtain ⟨s, e1, rfl, _⟩ := DataW.trod_string Tryd.underlying9 g1
    obtain ⟨A2, l2, c2, e2, hlc2, hC2, hok2, hb2⟩ := open_row k40 OkE (b := 63) (by kernel_rfl) Tryd.underlying38 (by kernel_rfl) g2 w2 (fun m hm cs' y hy hwy => open_E m cs' y hy hwy)
    obtain ⟨A3, l3, c3, e3, hlc3, hC3, hok3, hb3⟩ := open_row k64 OkS (b := 95) (by kernel_rfl) Tryd.underlying24 (by kernel_rfl) g3 w3 (fun m hm cs' y hy hwy => ih m (by omega) cs' y hy hwy)
    obtain ⟨A4, l4, c4, e4, hlc4, hC4, hok4, hb4⟩ := open_row k64 OkS (b := 95) (by kernel_rfl) Tryd.underlying24 (by kernel_rfl) g4 w4 (fun m hm cs' y hy hwy => ih m (by omega) cs' y hy hwy)
    cases e0; cases e1; cases e2; cases e3; cases e4
    exact ⟨⟨n0, s, l2, l3, l4⟩, k64_mk w ⟨n0, s, l2, l3, l4⟩ hlc2 hC2 hlc3 hC3 hlc4 hC4, .mk (w_str w1) hb2 hb3 hb4 hok2 hok3 hok4⟩
def OkI (x : S55) : Prop := x.f0.size ≤ 140737488351232 ∧ (-9223372036854775808 ≤ x.f1 ∧ x.f1 ≤ 9223372036854775807) ∧ (-9223372036854775808 ≤ x.f2 ∧ x.f2 ≤ 9223372036854775807) ∧ (-9223372036854775808 ≤ x.f3 ∧ x.f3 ≤ 9223372036854775807)
def OkA (x : S58) : Prop := x.f0.size ≤ 140737488351232 ∧ (-9223372036854775808 ≤ x.f1 ∧ x.f1 ≤ 9223372036854775807)
set_option maxRecDepth 100000 in
theorem open_I (fuel : Nat) (cs : List Value) (x : DataW H × List MemPlace) (h : DataW.trod enc Tryd.prog w base sp held fuel 55 cs = some x) (hw : (x.1.weights Tryd.prog 55).all (· ≤ reachBytes) = true) : ∃ X : S55, k55.K w X cs ∧ OkI X := by
  obtain ⟨xs, n, rfl, rfl, hl, hlen, hf⟩ := DataW.trod_struct Tryd.underlying55 h
  rw [show Tryd.prog.cellsOf 55 = 4 by kernel_rfl] at hl
  match xs, hlen with
  | [y0, y1, y2, y3], _ =>
  match cs, hl with
  | [c0, c1, c2, c3], _ =>
  have g0 : DataW.trod enc Tryd.prog w base sp held n 9 [c0] = some y0 := fld (k := 1) 0 hf rfl rfl rfl (by kernel_rfl) rfl rfl
  have g1 : DataW.trod enc Tryd.prog w base sp held n 3 [c1] = some y1 := fld (k := 1) 1 hf rfl rfl rfl (by kernel_rfl) rfl rfl
  have g2 : DataW.trod enc Tryd.prog w base sp held n 3 [c2] = some y2 := fld (k := 1) 2 hf rfl rfl rfl (by kernel_rfl) rfl rfl
  have g3 : DataW.trod enc Tryd.prog w base sp held n 3 [c3] = some y3 := fld (k := 1) 3 hf rfl rfl rfl (by kernel_rfl) rfl rfl
  rw [weights_agg Tryd.underlying55] at hw
  simp only [List.map_cons, List.map_nil, DataW.weightsEach, List.all_append, Bool.and_eq_true] at hw
  obtain ⟨w0, _⟩ := hw
  obtain ⟨s, e0, rfl, _⟩ := DataW.trod_string Tryd.underlying9 g0
  obtain ⟨n1, e1, rfl, r1⟩ := DataW.trod_int Tryd.underlying3 g1
  obtain ⟨n2, e2, rfl, r2⟩ := DataW.trod_int Tryd.underlying3 g2
  obtain ⟨n3, e3, rfl, r3⟩ := DataW.trod_int Tryd.underlying3 g3
  cases e0; cases e1; cases e2; cases e3
  exact ⟨⟨s, n1, n2, n3⟩, k55_mk w ⟨s, n1, n2, n3⟩, w_str w0, wf_i64 r1, wf_i64 r2, wf_i64 r3⟩
set_option maxRecDepth 100000 in
theorem open_A (fuel : Nat) (cs : List Value) (x : DataW H × List MemPlace) (h : DataW.trod enc Tryd.prog w base sp held fuel 58 cs = some x) (hw : (x.1.weights Tryd.prog 58).all (· ≤ reachBytes) = true) : ∃ X : S58, k58.K w X cs ∧ OkA X := by
  obtain ⟨xs, n, rfl, rfl, hl, hlen, hf⟩ := DataW.trod_struct Tryd.underlying58 h
  rw [show Tryd.prog.cellsOf 58 = 2 by kernel_rfl] at hl
  match xs, hlen with
  | [y0, y1], _ =>
  match cs, hl with
  | [c0, c1], _ =>
  have g0 : DataW.trod enc Tryd.prog w base sp held n 9 [c0] = some y0 := fld (k := 1) 0 hf rfl rfl rfl (by kernel_rfl) rfl rfl
  have g1 : DataW.trod enc Tryd.prog w base sp held n 3 [c1] = some y1 := fld (k := 1) 1 hf rfl rfl rfl (by kernel_rfl) rfl rfl
  rw [weights_agg Tryd.underlying58] at hw
  simp only [List.map_cons, List.map_nil, DataW.weightsEach, List.all_append, Bool.and_eq_true] at hw
  obtain ⟨w0, _⟩ := hw
  obtain ⟨s, e0, rfl, _⟩ := DataW.trod_string Tryd.underlying9 g0
  obtain ⟨n1, e1, rfl, r1⟩ := DataW.trod_int Tryd.underlying3 g1
  cases e0; cases e1
  exact ⟨⟨s, n1⟩, k58_mk w ⟨s, n1⟩, w_str w0, wf_i64 r1⟩
structure ProgAt (w : World) (v : Value) (A0 : Option Addr) (c0 : Nat) (l0 : List S55) (A1 : Option Addr) (c1 : Nat) (l1 : List S58) (A2 : Option Addr) (c2 : Nat) (l2 : List S64) : Prop where
  v : v = .agg #[.slice A0 l0.length c0, .slice A1 l1.length c1, .slice A2 l2.length c2]
  h0 : Kd.C k55 w A0 l0.length l0
  g0 : l0.length ≤ c0
  o0 : ∀ x ∈ l0, OkI x
  n0 : l0.length ≤ 140737488351232
  h1 : Kd.C k58 w A1 l1.length l1
  g1 : l1.length ≤ c1
  o1 : ∀ x ∈ l1, OkA x
  n1 : l1.length ≤ 140737488351232
  h2 : Kd.C k64 w A2 l2.length l2
  g2 : l2.length ≤ c2
  o2 : ∀ x ∈ l2, OkS x
  n2 : l2.length ≤ 140737488351232
set_option maxRecDepth 100000 in
theorem open_P {v : Value} {d : DataW H} {p : List MemPlace} (h : DataW.Trod enc Tryd.prog w base sp held 26 v d p) (hw : (d.weights Tryd.prog 26).all (· ≤ reachBytes) = true) :
    ∃ A0 c0 l0 A1 c1 l1 A2 c2 l2, ProgAt w v A0 c0 l0 A1 c1 l1 A2 c2 l2 := by
  obtain ⟨fuel, h⟩ := h
  obtain ⟨xs, n, rfl, hx, hl, hlen, hf⟩ := DataW.trod_struct Tryd.underlying26 h
  rw [show Tryd.prog.cellsOf 26 = 3 by kernel_rfl] at hl
  obtain ⟨arr, rfl⟩ : ∃ arr, v = .agg arr := by
    cases v <;> first | exact ⟨_, rfl⟩ | (exfalso; simp [Value.cells] at hl)
  obtain ⟨c0, c1, c2, hcs⟩ : ∃ c0 c1 c2, (Value.agg arr).cells.toList = [c0, c1, c2] := by
    match hq : (Value.agg arr).cells.toList, hl with
    | [c0, c1, c2], _ => exact ⟨c0, c1, c2, rfl⟩
  rw [hcs] at hf
  match xs, hlen with
  | [y0, y1, y2], _ =>
  cases hx
  have k0 : DataW.trod enc Tryd.prog w base sp held n 22 [c0] = some y0 := fld (k := 1) 0 hf rfl rfl rfl (by kernel_rfl) rfl rfl
  have k1 : DataW.trod enc Tryd.prog w base sp held n 23 [c1] = some y1 := fld (k := 1) 1 hf rfl rfl rfl (by kernel_rfl) rfl rfl
  have k2 : DataW.trod enc Tryd.prog w base sp held n 24 [c2] = some y2 := fld (k := 1) 2 hf rfl rfl rfl (by kernel_rfl) rfl rfl
  rw [weights_agg Tryd.underlying26] at hw
  simp only [List.map_cons, List.map_nil, DataW.weightsEach, List.all_append, Bool.and_eq_true] at hw
  obtain ⟨w0, w1, w2, _⟩ := hw
  obtain ⟨A0, l0, q0, e0, a0, b0, d0, f0⟩ := open_row k55 OkI (b := 39) (by kernel_rfl) Tryd.underlying22 (by kernel_rfl) k0 w0 (fun m hm cs' y hy hwy => open_I m cs' y hy hwy)
  obtain ⟨A1, l1, q1, e1, a1, b1, d1, f1⟩ := open_row k58 OkA (b := 23) (by kernel_rfl) Tryd.underlying23 (by kernel_rfl) k1 w1 (fun m hm cs' y hy hwy => open_A m cs' y hy hwy)
  obtain ⟨A2, l2, q2, e2, a2, b2, d2, f2⟩ := open_row k64 OkS (b := 95) (by kernel_rfl) Tryd.underlying24 (by kernel_rfl) k2 w2 (fun m hm cs' y hy hwy => open_S m cs' y hy hwy)
  cases e0; cases e1; cases e2
  refine ⟨A0, q0, l0, A1, q1, l1, A2, q2, l2, ?_, b0, a0, d0, f0, b1, a1, d1, f1, b2, a2, d2, f2⟩
  have : arr.toList = [.slice A0 l0.length q0, .slice A1 l1.length q1, .slice A2 l2.length q2] := hcs
  rw [← this]
end
end Go.Proofs.YtlhnfgnihakcfaaDoor.Ax
