import Derived.Test.YtlhnfgnihakcfaaDoorZKn0
import Derived.Test.YtlhnfgnihakcfaaDoorZRg
import Derived.Test.YtlhnfgnihakcfaaDoorZHp
import Derived.Lib.Hide
import Derived.Deep.DeepMust
set_option linter.unusedSimpArgs false
set_option linter.unusedVariables false
namespace Go.Proofs.YtlhnfgnihakcfaaDoor.Ax
open Go.RowKit Hp Kn
open Go.Proofs.YtlhnfgnihakcfaaDoorW.PrintWords Go.Proofs.YtlhnfgnihakcfaaDoorW.PrintLast Go.Proofs.YtlhnfgnihakcfaaDoorW.PrintMore
section
variable {P : Program} {ops : Array Oper} {Q : Exit → Act → World → Prop}
theorem gateC {o : Oper} {rest : List Oper} {a : Act} {W : World} {n : Tmp} {xs : Array Operand} {ts : Array TypeId} (_ho : o.op = .call { callee := .value (.tmp n), args := xs, argTypes := ts }) (h : wpList P ops Q (o :: rest) a W) : wpList P ops Q (o :: rest) a W := h
theorem goesC {rest : List Oper} {oi : Oper} {a : Act} {w : World} (N : Option Tmp) (hd : oi.dst = N) (hg : oi.guard = none) {f : FuncId} {fn : Func} {c : Operand} {xs : Array Operand} {ts : Array TypeId} {cap : Array Value} (hf : P.funcs[f]? = some fn) (hname : (fn.name == "runtime.NumGoroutine") = false) (hb : fn.body.isSome = true) (args : Array Value)
    (hop : oi.op = .call { callee := .value c, args := xs, argTypes := ts }) (hc : a.eval c = .func (.func f) #[] cap) (hargs : xs.map a.eval ++ cap = args)
    (h : Calls P f args w fun e w' => ∃ v, e = .returned v ∧ wpList P ops Q rest (a.put N v) w') : wpList P ops Q (oi :: rest) a w := by
  refine wpList_plain hg fun K hK => ?_
  have he := enters_ hf hname hb args w
  have hrun : (execOp a.eval oi).run P w = .ok (.enter f args) w := by
    unfold execOp
    simp [hop, resolve, Deferred.ofValue, invoke, hc, hargs, he]
  unfold Oper.wp
  rw [hrun, Oper.upon_enter]
  refine h.mono fun e w'' hh => ?_
  obtain ⟨v, rfl, hq⟩ := hh
  subst hd
  exact hK _ _ hq
end
def exV (A : Option Addr) (c : Nat) (x : S40) : Value := .agg #[.int .i64 x.f0, .int .i64 x.f1, .int .u64 x.f2, .string x.f3, .slice A x.f4.length c]
def fndI {α : Type} (p : α → Bool) (l : List α) : Int := match l.findIdx? p with | some i => i | none => -1
def TestE (w : World) (F : FuncId) (cap : Array Value) (p : S40 → Bool) (x : S40) : Prop :=
  ∀ (w1 : World) A4 c4, Below w.heap.size w w1 → Kd.C k40 w1 A4 x.f4.length x.f4 → x.f4.length ≤ c4 → Calls Tryd.prog F (#[exV A4 c4 x] ++ cap) w1 fun e w2 => e = .returned (.bool (p x)) ∧ Below w1.heap.size w1 w2
def stV (A2 : Option Addr) (c2 : Nat) (A3 : Option Addr) (c3 : Nat) (A4 : Option Addr) (c4 : Nat) (x : S64) : Value := .agg #[.int .i64 x.f0, .string x.f1, .slice A2 x.f2.length c2, .slice A3 x.f3.length c3, .slice A4 x.f4.length c4]
def TestS (w : World) (F : FuncId) (cap : Array Value) (p : S64 → Bool) (x : S64) : Prop :=
  ∀ (w1 : World) A2 c2 A3 c3 A4 c4, Below w.heap.size w w1 → Kd.C k40 w1 A2 x.f2.length x.f2 → x.f2.length ≤ c2 → Kd.C k64 w1 A3 x.f3.length x.f3 → x.f3.length ≤ c3 → Kd.C k64 w1 A4 x.f4.length x.f4 → x.f4.length ≤ c4 → Calls Tryd.prog F (#[stV A2 c2 A3 c3 A4 c4 x] ++ cap) w1 fun e w2 => e = .returned (.bool (p x)) ∧ Below w1.heap.size w1 w2
theorem fnd_none {α : Type} {p : α → Bool} {l : List α} (h : ∀ (j : Nat) x, l[j]? = some x → p x = false) : fndI p l = -1 := by
  have : l.findIdx? p = none := by
    rw [List.findIdx?_eq_none_iff]
    intro x hx
    obtain ⟨j, hj⟩ := List.mem_iff_getElem?.1 hx
    exact h j x hj
  unfold fndI; rw [this]
theorem fnd_some {α : Type} {p : α → Bool} {l : List α} {k : Nat} {x : α} (hk : l[k]? = some x) (hx : p x = true) (h : ∀ (j : Nat) y, j < k → l[j]? = some y → p y = false) : fndI p l = (k : Int) := by
  have hlt : k < l.length := by
    rcases Nat.lt_or_ge k l.length with h | h
    · exact h
    · rw [List.getElem?_eq_none h] at hk; cases hk
  have : l.findIdx? p = some k := by
    rw [List.findIdx?_eq_some_iff_getElem]
    refine ⟨hlt, ?_, ?_⟩
    · rw [List.getElem?_eq_getElem hlt] at hk; cases hk; exact hx
    · intro j hj
      have := h j (l[j]'(by omega)) hj (List.getElem?_eq_getElem _)
      simp [this]
  unfold fndI; rw [this]
set_option maxRecDepth 100000 in
theorem index_expr (F : FuncId) (fn : Func) (cap : Array Value) (p : S40 → Bool) (hfn : Tryd.prog.funcs[F]? = some fn) (hname : (fn.name == "runtime.NumGoroutine") = false) (hbody : fn.body.isSome = true)
    (A : Option Addr) (c : Nat) (l : List S40) (w : World) (hC : Kd.C k40 w A l.length l) (hlen : l.length ≤ 140737488351232) (hT : ∀ x ∈ l, TestE w F cap p x) :
    Calls Tryd.prog 95 #[.slice A l.length c, .func (.func F) #[] cap] w fun e w' => e = .returned (.int .i64 (fndI p l)) ∧ Below w.heap.size w w' := by
  have HC := Lib.hid hC
  have HT := Lib.hid hT
  clear hC hT
  go_enter Tryd.func95, Tryd.ntmps95
  go_wp2
  go_loopw [8] (fun i wr => ∃ k : Nat, k ≤ l.length ∧ i = .int .i64 k ∧ (∀ (j : Nat) x, j < k → l[j]? = some x → p x = false) ∧ Below w.heap.size w wr) (fun i _ => l.length - (intOf i).toNat)
  case atStart => exact ⟨0, by omega, rfl, fun j x h => absurd h (by omega), Below.refl _ _⟩
  case round =>
    obtain ⟨k, hk, rfl, hst, hb⟩ := hrel
    by_cases hlt : k < l.length
    · obtain ⟨ad, A4, c4, rfl, h0, h1, h2, h3, h4, h5, h6⟩ := at_T40 HC.out (k : Int) (by omega) (by omega)
      have hrd : l[k]? = some (rd_T40 l k) := by
        simp [rd_T40, List.getD_eq_getElem?_getD, hlt]
      generalize rd_T40 l k = x at h0 h1 h2 h3 h4 h5 h6 hrd
      have h0 : wr.cell? (ad.add (k * 5)) = some (.int .i64 x.f0) := (hb.cell (World.block_lt_of_cell? w _ h0)).trans h0
      have h1 : wr.cell? ⟨(ad.add (k * 5)).block, (ad.add (k * 5)).off + 1, none⟩ = some (.int .i64 x.f1) := (hb.cell (World.block_lt_of_cell? w _ h1)).trans h1
      have h2 : wr.cell? ⟨(ad.add (k * 5)).block, (ad.add (k * 5)).off + 2, none⟩ = some (.int .u64 x.f2) := (hb.cell (World.block_lt_of_cell? w _ h2)).trans h2
      have h3 : wr.cell? ⟨(ad.add (k * 5)).block, (ad.add (k * 5)).off + 3, none⟩ = some (.string x.f3) := (hb.cell (World.block_lt_of_cell? w _ h3)).trans h3
      have h4 : wr.cell? ⟨(ad.add (k * 5)).block, (ad.add (k * 5)).off + 4, none⟩ = some (.slice A4 x.f4.length c4) := (hb.cell (World.block_lt_of_cell? w _ h4)).trans h4
      have HX := Lib.hid (HT.out x (List.mem_of_getElem? hrd))
      have HK := Lib.hid h6
      have HL := Lib.hid h5
      have HR := Lib.hid hrd
      clear h5 h6 hrd
      cases hp : p x with
      | true =>
        go_wp2_with ((with_reducible refine gateC (n := 11) rfl ?_); go_must (refine goesC (some 16) rfl rfl (f := F) (cap := cap) hfn hname hbody (#[exV A4 c4 x] ++ cap) rfl rfl (by (try simp only [List.map_toArray, List.map_cons, List.map_nil]); first | done | rfl) ?_; refine (HX.out wr A4 c4 hb (Kd.C_below HK.out hb) HL.out).mono ?_; rintro e w2 ⟨rfl, hb2⟩; rw [hp]; refine ⟨_, rfl, ?_⟩; have hb3 := below_next hb (Nat.le_refl _) hb2; clear hb2))
        go_ret
        exact ⟨by rw [fnd_some HR.out hp hst]; rfl, hb3⟩
      | false =>
        go_wp2_with ((with_reducible refine gateC (n := 11) rfl ?_); go_must (refine goesC (some 16) rfl rfl (f := F) (cap := cap) hfn hname hbody (#[exV A4 c4 x] ++ cap) rfl rfl (by (try simp only [List.map_toArray, List.map_cons, List.map_nil]); first | done | rfl) ?_; refine (HX.out wr A4 c4 hb (Kd.C_below HK.out hb) HL.out).mono ?_; rintro e w2 ⟨rfl, hb2⟩; rw [hp]; refine ⟨_, rfl, ?_⟩; have hb3 := below_next hb (Nat.le_refl _) hb2; clear hb2))
        go_roundw
        case rel =>
          refine ⟨k + 1, by omega, by go_num, fun j y hj hy => ?_, hb3⟩
          rcases Nat.lt_or_ge j k with h | h
          · exact hst j y h hy
          · obtain rfl : j = k := by omega
            have := HR.out
            rw [hy] at this
            cases this
            exact hp
        case measure => simp [intOf]; omega
    · go_wp2_with fail
      go_ret
      exact ⟨by rw [fnd_none (fun j x h => hst j x (by have := (List.getElem?_eq_some_iff.1 h).1; omega) h)]; rfl, hb⟩
set_option maxRecDepth 100000 in
theorem index_stmt (F : FuncId) (fn : Func) (cap : Array Value) (p : S64 → Bool) (hfn : Tryd.prog.funcs[F]? = some fn) (hname : (fn.name == "runtime.NumGoroutine") = false) (hbody : fn.body.isSome = true)
    (A : Option Addr) (c : Nat) (l : List S64) (w : World) (hC : Kd.C k64 w A l.length l) (hlen : l.length ≤ 140737488351232) (hT : ∀ x ∈ l, TestS w F cap p x) :
    Calls Tryd.prog 77 #[.slice A l.length c, .func (.func F) #[] cap] w fun e w' => e = .returned (.int .i64 (fndI p l)) ∧ Below w.heap.size w w' := by
  have HC := Lib.hid hC
  have HT := Lib.hid hT
  clear hC hT
  go_enter Tryd.func77, Tryd.ntmps77
  go_wp2
  go_loopw [8] (fun i wr => ∃ k : Nat, k ≤ l.length ∧ i = .int .i64 k ∧ (∀ (j : Nat) x, j < k → l[j]? = some x → p x = false) ∧ Below w.heap.size w wr) (fun i _ => l.length - (intOf i).toNat)
  case atStart => exact ⟨0, by omega, rfl, fun j x h => absurd h (by omega), Below.refl _ _⟩
  case round =>
    obtain ⟨k, hk, rfl, hst, hb⟩ := hrel
    by_cases hlt : k < l.length
    · obtain ⟨ad, A2, c2, A3, c3, A4, c4, rfl, h0, h1, h2, h3, h4, l2, g2, l3, g3, l4, g4⟩ := at_T64 HC.out (k : Int) (by omega) (by omega)
      have hrd : l[k]? = some (rd_T64 l k) := by
        simp [rd_T64, List.getD_eq_getElem?_getD, hlt]
      generalize rd_T64 l k = x at h0 h1 h2 h3 h4 l2 g2 l3 g3 l4 g4 hrd
      have h0 : wr.cell? (ad.add (k * 5)) = some (.int .i64 x.f0) := (hb.cell (World.block_lt_of_cell? w _ h0)).trans h0
      have h1 : wr.cell? ⟨(ad.add (k * 5)).block, (ad.add (k * 5)).off + 1, none⟩ = some (.string x.f1) := (hb.cell (World.block_lt_of_cell? w _ h1)).trans h1
      have h2 : wr.cell? ⟨(ad.add (k * 5)).block, (ad.add (k * 5)).off + 2, none⟩ = some (.slice A2 x.f2.length c2) := (hb.cell (World.block_lt_of_cell? w _ h2)).trans h2
      have h3 : wr.cell? ⟨(ad.add (k * 5)).block, (ad.add (k * 5)).off + 3, none⟩ = some (.slice A3 x.f3.length c3) := (hb.cell (World.block_lt_of_cell? w _ h3)).trans h3
      have h4 : wr.cell? ⟨(ad.add (k * 5)).block, (ad.add (k * 5)).off + 4, none⟩ = some (.slice A4 x.f4.length c4) := (hb.cell (World.block_lt_of_cell? w _ h4)).trans h4
      have HX := Lib.hid (HT.out x (List.mem_of_getElem? hrd))
      have HK := Lib.hid (And.intro g2 (And.intro g3 g4))
      have HL := Lib.hid (And.intro l2 (And.intro l3 l4))
      have HR := Lib.hid hrd
      clear l2 g2 l3 g3 l4 g4 hrd
      cases hp : p x with
      | true =>
        go_wp2_with ((with_reducible refine gateC (n := 11) rfl ?_); go_must (refine goesC (some 16) rfl rfl (f := F) (cap := cap) hfn hname hbody (#[stV A2 c2 A3 c3 A4 c4 x] ++ cap) rfl rfl (by (try simp only [List.map_toArray, List.map_cons, List.map_nil]); first | done | rfl) ?_; refine (HX.out wr A2 c2 A3 c3 A4 c4 hb (Kd.C_below HK.out.1 hb) HL.out.1 (Kd.C_below HK.out.2.1 hb) HL.out.2.1 (Kd.C_below HK.out.2.2 hb) HL.out.2.2).mono ?_; rintro e w2 ⟨rfl, hb2⟩; rw [hp]; refine ⟨_, rfl, ?_⟩; have hb3 := below_next hb (Nat.le_refl _) hb2; clear hb2))
        go_ret
        exact ⟨by rw [fnd_some HR.out hp hst]; rfl, hb3⟩
      | false =>
        go_wp2_with ((with_reducible refine gateC (n := 11) rfl ?_); go_must (refine goesC (some 16) rfl rfl (f := F) (cap := cap) hfn hname hbody (#[stV A2 c2 A3 c3 A4 c4 x] ++ cap) rfl rfl (by (try simp only [List.map_toArray, List.map_cons, List.map_nil]); first | done | rfl) ?_; refine (HX.out wr A2 c2 A3 c3 A4 c4 hb (Kd.C_below HK.out.1 hb) HL.out.1 (Kd.C_below HK.out.2.1 hb) HL.out.2.1 (Kd.C_below HK.out.2.2 hb) HL.out.2.2).mono ?_; rintro e w2 ⟨rfl, hb2⟩; rw [hp]; refine ⟨_, rfl, ?_⟩; have hb3 := below_next hb (Nat.le_refl _) hb2; clear hb2))
        go_roundw
        case rel =>
          refine ⟨k + 1, by omega, by go_num, fun j y hj hy => ?_, hb3⟩
          rcases Nat.lt_or_ge j k with h | h
          · exact hst j y h hy
          · obtain rfl : j = k := by omega
            have := HR.out
            rw [hy] at this
            cases this
            exact hp
        case measure => simp [intOf]; omega
    · go_wp2_with fail
      go_ret
      exact ⟨by rw [fnd_none (fun j x h => hst j x (by have := (List.getElem?_eq_some_iff.1 h).1; omega) h)]; rfl, hb⟩
theorem fnd_any {α : Type} (p : α → Bool) (l : List α) : decide (0 ≤ fndI p l) = l.any p := by
  unfold fndI
  cases h : l.findIdx? p with
  | none =>
    rw [List.findIdx?_eq_none_iff] at h
    have : l.any p = false := by rw [List.any_eq_false]; intro x hx; simp [h x hx]
    rw [this]; rfl
  | some i =>
    obtain ⟨hi, hp, _⟩ := List.findIdx?_eq_some_iff_getElem.1 h
    have : l.any p = true := List.any_eq_true.2 ⟨_, List.getElem_mem hi, hp⟩
    rw [this]; simp
set_option maxRecDepth 100000 in
theorem contains_expr (F : FuncId) (fn : Func) (cap : Array Value) (p : S40 → Bool) (hfn : Tryd.prog.funcs[F]? = some fn) (hname : (fn.name == "runtime.NumGoroutine") = false) (hbody : fn.body.isSome = true)
    (A : Option Addr) (c : Nat) (l : List S40) (w : World) (hC : Kd.C k40 w A l.length l) (hlen : l.length ≤ 140737488351232) (hT : ∀ x ∈ l, TestE w F cap p x) :
    Calls Tryd.prog 78 #[.slice A l.length c, .func (.func F) #[] cap] w fun e w' => e = .returned (.bool (l.any p)) ∧ Below w.heap.size w w' := by
  have HC := Lib.hid hC
  have HT := Lib.hid hT
  have HA := Lib.hid (fnd_any p l)
  clear hC hT
  go_enter Tryd.func78, Tryd.ntmps78
  go_wp2_with fail
  refine (index_expr F fn cap p hfn hname hbody A c l _ HC.out hlen HT.out).mono ?_
  rintro e w1 ⟨rfl, hb⟩
  have ha := HA.out
  generalize fndI p l = i at ha
  go_wp2_with fail
  go_ret
  exact ⟨by first | rfl | (simp [← ha]; done), hb⟩
set_option maxRecDepth 100000 in
theorem contains_stmt (F : FuncId) (fn : Func) (cap : Array Value) (p : S64 → Bool) (hfn : Tryd.prog.funcs[F]? = some fn) (hname : (fn.name == "runtime.NumGoroutine") = false) (hbody : fn.body.isSome = true)
    (A : Option Addr) (c : Nat) (l : List S64) (w : World) (hC : Kd.C k64 w A l.length l) (hlen : l.length ≤ 140737488351232) (hT : ∀ x ∈ l, TestS w F cap p x) :
    Calls Tryd.prog 51 #[.slice A l.length c, .func (.func F) #[] cap] w fun e w' => e = .returned (.bool (l.any p)) ∧ Below w.heap.size w w' := by
  have HC := Lib.hid hC
  have HT := Lib.hid hT
  have HA := Lib.hid (fnd_any p l)
  clear hC hT
  go_enter Tryd.func51, Tryd.ntmps51
  go_wp2_with fail
  refine (index_stmt F fn cap p hfn hname hbody A c l _ HC.out hlen HT.out).mono ?_
  rintro e w1 ⟨rfl, hb⟩
  have ha := HA.out
  generalize fndI p l = i at ha
  go_wp2_with fail
  go_ret
  exact ⟨by first | rfl | (simp [← ha]; done), hb⟩
end Go.Proofs.YtlhnfgnihakcfaaDoor.Ax
set_option linter.unusedSimpArgs false
set_option linter.unusedVariables false
namespace Go.Proofs.YtlhnfgnihakcfaaDoor.Ax
open Go.RowKit Hp Kn
open Go.Proofs.YtlhnfgnihakcfaaDoorW.PrintWords Go.Proofs.YtlhnfgnihakcfaaDoorW.PrintLast Go.Proofs.YtlhnfgnihakcfaaDoorW.PrintMore
def known (k : Int) : Bool := k == 1 || k == 2 || k == 3 || k == 4 || k == 5 || k == 6
def bareOp (x : S40) : Int := if x.f0 = 4 then x.f1 else 0
def bareNum (x : S40) : Int := if x.f0 = 1 then x.f2 else 0
def bareName (x : S40) : ByteArray := if x.f0 = 2 ∨ x.f0 = 3 then x.f3 else ⟨#[]⟩
def kidsN (k : Int) : Int := if k = 3 ∨ k = 5 then 1 else if k = 4 then 2 else if k = 6 then 3 else 0
theorem second_new (w : World) (o1 : Obj) (cs : List Value) (t : TypeId) : Blk ((w.alloc o1).alloc (.cells cs.toArray t)) (w.heap.size + 1) cs t := by
  have e : (w.alloc o1).heap.size = w.heap.size + 1 := by simp
  have h := Blk.alloc_new (w.alloc o1) cs t
  rw [e] at h
  exact h
theorem heap_second (w : World) (o1 o2 o3 : Obj) : (((w.alloc o1).alloc o2).alloc o3).heap[w.heap.size + 1]? = some o2 := by
  have e : (w.alloc o1).heap.size = w.heap.size + 1 := by simp
  have h := heap_alloc_new (w.alloc o1) o2
  rw [e] at h
  have hl : w.heap.size + 1 < ((w.alloc o1).alloc o2).heap.size := by simp
  exact (Below.heap_alloc _ _ _ hl).trans h
set_option maxRecDepth 100000 in
set_option maxHeartbeats 2000000 in
theorem bare_calls (x : S40) (A : Option Addr) (c : Nat) (w : World) :
    Calls Tryd.prog 96 #[exV A c x] w fun e w' => e = .returned (.tuple #[.agg #[.int .i64 x.f0, .int .i64 (bareOp x), .int .u64 (bareNum x), .string (bareName x), .slice none 0 0], .bool (known x.f0)]) ∧ Below w.heap.size w w' := by
  have HB := Lib.hid (Below.refl w.heap.size w)
  obtain ⟨f0, f1, f2, f3, f4⟩ := x
  unfold exV bareOp bareNum bareName known
  simp only
  by_cases h1 : f0 = 1
  · subst h1
    go_enter Tryd.func96, Tryd.ntmps96
    go_wp2
    refine bodyPost_ret (results_ct rfl _ _ (w.heap.size + 1) 40 #[.int .i64 1, .int .i64 0, .int .u64 f2, .string ⟨#[]⟩, .slice none 0 0] (0, 0) _ rfl ?_ Tryd.underlying40 rfl (by kernel_rfl)) rfl ⟨rfl, ?_⟩
    · exact heap_second _ _ _ _
    · exact ((HB.out.alloc (Nat.le_refl _) _).alloc (by simp) _).alloc (by simp; omega) _
  have e1 : (f0 == 1) = false := by simpa using h1
  by_cases h2 : f0 = 2
  · subst h2
    go_enter Tryd.func96, Tryd.ntmps96
    go_wp2
    refine bodyPost_ret (results_ct rfl _ _ (w.heap.size + 1) 40 #[.int .i64 2, .int .i64 0, .int .u64 0, .string f3, .slice none 0 0] (0, 0) _ rfl ?_ Tryd.underlying40 rfl (by kernel_rfl)) rfl ⟨rfl, ?_⟩
    · exact heap_second _ _ _ _
    · exact ((HB.out.alloc (Nat.le_refl _) _).alloc (by simp) _).alloc (by simp; omega) _
  have e2 : (f0 == 2) = false := by simpa using h2
  by_cases h3 : f0 = 3
  · subst h3
    go_enter Tryd.func96, Tryd.ntmps96
    go_wp2
    refine bodyPost_ret (results_ct rfl _ _ (w.heap.size + 1) 40 #[.int .i64 3, .int .i64 0, .int .u64 0, .string f3, .slice none 0 0] (0, 0) _ rfl ?_ Tryd.underlying40 rfl (by kernel_rfl)) rfl ⟨rfl, ?_⟩
    · exact heap_second _ _ _ _
    · exact ((HB.out.alloc (Nat.le_refl _) _).alloc (by simp) _).alloc (by simp; omega) _
  have e3 : (f0 == 3) = false := by simpa using h3
  by_cases h4 : f0 = 4
  · subst h4
    go_enter Tryd.func96, Tryd.ntmps96
    go_wp2
    refine bodyPost_ret (results_ct rfl _ _ (w.heap.size + 1) 40 #[.int .i64 4, .int .i64 f1, .int .u64 0, .string ⟨#[]⟩, .slice none 0 0] (0, 0) _ rfl ?_ Tryd.underlying40 rfl (by kernel_rfl)) rfl ⟨rfl, ?_⟩
    · exact heap_second _ _ _ _
    · exact ((HB.out.alloc (Nat.le_refl _) _).alloc (by simp) _).alloc (by simp; omega) _
  have e4 : (f0 == 4) = false := by simpa using h4
  by_cases h5 : f0 = 5
  · subst h5
    go_enter Tryd.func96, Tryd.ntmps96
    go_wp2
    refine bodyPost_ret (results_ct rfl _ _ (w.heap.size + 1) 40 #[.int .i64 5, .int .i64 0, .int .u64 0, .string ⟨#[]⟩, .slice none 0 0] (0, 0) _ rfl ?_ Tryd.underlying40 rfl (by kernel_rfl)) rfl ⟨rfl, ?_⟩
    · exact heap_second _ _ _ _
    · exact ((HB.out.alloc (Nat.le_refl _) _).alloc (by simp) _).alloc (by simp; omega) _
  have e5 : (f0 == 5) = false := by simpa using h5
  by_cases h6 : f0 = 6
  · subst h6
    go_enter Tryd.func96, Tryd.ntmps96
    go_wp2
    refine bodyPost_ret (results_ct rfl _ _ (w.heap.size + 1) 40 #[.int .i64 6, .int .i64 0, .int .u64 0, .string ⟨#[]⟩, .slice none 0 0] (0, 0) _ rfl ?_ Tryd.underlying40 rfl (by kernel_rfl)) rfl ⟨rfl, ?_⟩
    · exact heap_second _ _ _ _
    · exact ((HB.out.alloc (Nat.le_refl _) _).alloc (by simp) _).alloc (by simp; omega) _
  have e6 : (f0 == 6) = false := by simpa using h6
  simp only [h1, h2, h3, h4, if_false, or_self, e1, e2, e3, e4, e5, e6, Bool.or_self]
  clear h1 h2 h3 h4 h5 h6
  go_enter Tryd.func96, Tryd.ntmps96
  go_wp2
  refine bodyPost_ret (results_ct rfl _ _ (w.heap.size + 1) 40 #[.int .i64 f0, .int .i64 0, .int .u64 0, .string ⟨#[]⟩, .slice none 0 0] (0, 0) _ rfl ?_ Tryd.underlying40 rfl (by kernel_rfl)) rfl ⟨rfl, ?_⟩
  · exact heap_second _ _ _ _
  · exact ((HB.out.alloc (Nat.le_refl _) _).alloc (by simp) _).alloc (by simp; omega) _
set_option maxRecDepth 100000 in
theorem kids_calls (k : Int) (w : World) : Calls Tryd.prog 97 #[.int .i64 k] w fun e w' => e = .returned (.int .i64 (kidsN k)) ∧ Below w.heap.size w w' := by
  have HB := Lib.hid (Below.refl w.heap.size w)
  unfold kidsN
  by_cases h3 : k = 3
  · subst h3
    go_enter Tryd.func97, Tryd.ntmps97
    go_wp2
    go_ret
    exact ⟨rfl, HB.out⟩
  have e3 : (k == 3) = false := by simpa using h3
  by_cases h5 : k = 5
  · subst h5
    go_enter Tryd.func97, Tryd.ntmps97
    go_wp2
    go_ret
    exact ⟨rfl, HB.out⟩
  have e5 : (k == 5) = false := by simpa using h5
  by_cases h4 : k = 4
  · subst h4
    go_enter Tryd.func97, Tryd.ntmps97
    go_wp2
    go_ret
    exact ⟨rfl, HB.out⟩
  have e4 : (k == 4) = false := by simpa using h4
  by_cases h6 : k = 6
  · subst h6
    go_enter Tryd.func97, Tryd.ntmps97
    go_wp2
    go_ret
    exact ⟨rfl, HB.out⟩
  have e6 : (k == 6) = false := by simpa using h6
  simp only [h3, h4, h5, h6, if_false, or_self]
  clear h3 h4 h5 h6
  go_enter Tryd.func97, Tryd.ntmps97
  go_wp2
  go_ret
  exact ⟨rfl, HB.out⟩
end Go.Proofs.YtlhnfgnihakcfaaDoor.Ax
set_option linter.unusedSimpArgs false
set_option linter.unusedVariables false
namespace Go.Proofs.YtlhnfgnihakcfaaDoor.Ax
open Go.RowKit Hp Kn
open Go.Proofs.YtlhnfgnihakcfaaDoorW.PrintWords Go.Proofs.YtlhnfgnihakcfaaDoorW.PrintLast Go.Proofs.YtlhnfgnihakcfaaDoorW.PrintMore
def allP {α : Type} (p : α → α → Bool) : List α → List α → Bool
  | [], [] => true
  | x :: l, y :: m => p x y && allP p l m
  | _, _ => false
theorem allP_len {α : Type} {p : α → α → Bool} : ∀ {l m : List α}, l.length ≠ m.length → allP p l m = false
  | [], [], h => absurd rfl h
  | [], _ :: _, _ => rfl
  | _ :: _, [], _ => rfl
  | x :: l, y :: m, h => by simp only [allP, allP_len (l := l) (m := m) (by simpa using h), Bool.and_false]
theorem allP_true {α : Type} {p : α → α → Bool} : ∀ {l m : List α}, l.length = m.length → (∀ (j : Nat) x y, l[j]? = some x → m[j]? = some y → p x y = true) → allP p l m = true
  | [], [], _, _ => rfl
  | [], _ :: _, h, _ => by simp at h
  | _ :: _, [], h, _ => by simp at h
  | x :: l, y :: m, h, hp => by
    simp only [allP, hp 0 x y rfl rfl, Bool.true_and]
    exact allP_true (by simpa using h) fun j a b ha hb => hp (j + 1) a b (by simpa using ha) (by simpa using hb)
theorem allP_false {α : Type} {p : α → α → Bool} : ∀ {l m : List α} {k : Nat} {x y : α}, l[k]? = some x → m[k]? = some y → p x y = false → allP p l m = false
  | [], _, k, _, _, h, _, _ => by simp at h
  | _ :: _, [], k, _, _, _, h, _ => by simp at h
  | a :: l, b :: m, 0, x, y, h1, h2, hp => by
    simp at h1 h2; subst h1; subst h2; simp [allP, hp]
  | a :: l, b :: m, k + 1, x, y, h1, h2, hp => by
    simp only [allP, allP_false (l := l) (m := m) (k := k) (by simpa using h1) (by simpa using h2) hp, Bool.and_false]
def TestEE (w : World) (F : FuncId) (p : S40 → S40 → Bool) (x y : S40) : Prop :=
  ∀ (w1 : World) A4 c4 B4 d4, Below w.heap.size w w1 → Kd.C k40 w1 A4 x.f4.length x.f4 → x.f4.length ≤ c4 → Kd.C k40 w1 B4 y.f4.length y.f4 → y.f4.length ≤ d4 → Calls Tryd.prog F #[exV A4 c4 x, exV B4 d4 y] w1 fun e w2 => e = .returned (.bool (p x y)) ∧ Below w1.heap.size w1 w2
set_option maxRecDepth 100000 in
theorem equal_expr (F : FuncId) (fn : Func) (p : S40 → S40 → Bool) (hfn : Tryd.prog.funcs[F]? = some fn) (hname : (fn.name == "runtime.NumGoroutine") = false) (hbody : fn.body.isSome = true)
    (A : Option Addr) (c : Nat) (l : List S40) (B : Option Addr) (d : Nat) (m : List S40) (w : World) (hC : Kd.C k40 w A l.length l) (hD : Kd.C k40 w B m.length m) (hlen : l.length ≤ 140737488351232) (hT : ∀ x ∈ l, ∀ y ∈ m, TestEE w F p x y) :
    Calls Tryd.prog 58 #[.slice A l.length c, .slice B m.length d, .func (.func F) #[] #[]] w fun e w' => e = .returned (.bool (allP p l m)) ∧ Below w.heap.size w w' := by
  have HB := Lib.hid (Below.refl w.heap.size w)
  by_cases hlm : l.length = m.length
  case neg =>
    have hn : ((l.length : Int) != (m.length : Int)) = true := by simp; omega
    rw [allP_len hlm]
    clear hT hC hD hlm
    go_enter Tryd.func58, Tryd.ntmps58
    go_wp2_with fail
    go_ret
    exact ⟨rfl, HB.out⟩
  have hn : ((l.length : Int) != (m.length : Int)) = false := by simp; omega
  have HC := Lib.hid (And.intro hC hD)
  have HT := Lib.hid hT
  have HM := Lib.hid hlm
  clear hC hD hT hlm
  go_enter Tryd.func58, Tryd.ntmps58
  go_wp2
  clear hn
  go_loopw [17] (fun i wr => ∃ k : Nat, k ≤ l.length ∧ i = .int .i64 k ∧ (∀ (j : Nat) x y, j < k → l[j]? = some x → m[j]? = some y → p x y = true) ∧ Below w.heap.size w wr) (fun i _ => l.length - (intOf i).toNat)
  case atStart => exact ⟨0, by omega, rfl, fun j x y h => absurd h (by omega), HB.out⟩
  case round =>
    obtain ⟨k, hk, rfl, hst, hb⟩ := hrel
    by_cases hlt : k < l.length
    · have hlm2 : k < m.length := by have := HM.out; omega
      obtain ⟨ad, A4, c4, rfl, h0, h1, h2, h3, h4, hl4, hg4⟩ := at_T40 HC.out.1 (k : Int) (by omega) (by omega)
      obtain ⟨bd, B4, d4, rfl, m0, m1, m2, m3, m4, ml4, mg4⟩ := at_T40 HC.out.2 (k : Int) (by omega) (by omega)
      have hrd : l[k]? = some (rd_T40 l k) := by
        simp [rd_T40, List.getD_eq_getElem?_getD, hlt]
      have hre : m[k]? = some (rd_T40 m k) := by
        simp [rd_T40, List.getD_eq_getElem?_getD, hlm2]
      generalize rd_T40 l k = x at h0 h1 h2 h3 h4 hl4 hg4 hrd
      generalize rd_T40 m k = y at m0 m1 m2 m3 m4 ml4 mg4 hre
      have h0 : wr.cell? (ad.add (k * 5)) = some (.int .i64 x.f0) := (hb.cell (World.block_lt_of_cell? w _ h0)).trans h0
      have h1 : wr.cell? ⟨(ad.add (k * 5)).block, (ad.add (k * 5)).off + 1, none⟩ = some (.int .i64 x.f1) := (hb.cell (World.block_lt_of_cell? w _ h1)).trans h1
      have h2 : wr.cell? ⟨(ad.add (k * 5)).block, (ad.add (k * 5)).off + 2, none⟩ = some (.int .u64 x.f2) := (hb.cell (World.block_lt_of_cell? w _ h2)).trans h2
      have h3 : wr.cell? ⟨(ad.add (k * 5)).block, (ad.add (k * 5)).off + 3, none⟩ = some (.string x.f3) := (hb.cell (World.block_lt_of_cell? w _ h3)).trans h3
      have h4 : wr.cell? ⟨(ad.add (k * 5)).block, (ad.add (k * 5)).off + 4, none⟩ = some (.slice A4 x.f4.length c4) := (hb.cell (World.block_lt_of_cell? w _ h4)).trans h4
      have hb1 := hb.alloc hb.size (.cells #[.int .i64 x.f0, .int .i64 x.f1, .int .u64 x.f2, .string x.f3, .slice A4 x.f4.length c4] 40)
      have m0 : (wr.alloc (.cells #[.int .i64 x.f0, .int .i64 x.f1, .int .u64 x.f2, .string x.f3, .slice A4 x.f4.length c4] 40)).cell? (bd.add (k * 5)) = some (.int .i64 y.f0) := (hb1.cell (World.block_lt_of_cell? w _ m0)).trans m0
      have m1 : (wr.alloc (.cells #[.int .i64 x.f0, .int .i64 x.f1, .int .u64 x.f2, .string x.f3, .slice A4 x.f4.length c4] 40)).cell? ⟨(bd.add (k * 5)).block, (bd.add (k * 5)).off + 1, none⟩ = some (.int .i64 y.f1) := (hb1.cell (World.block_lt_of_cell? w _ m1)).trans m1
      have m2 : (wr.alloc (.cells #[.int .i64 x.f0, .int .i64 x.f1, .int .u64 x.f2, .string x.f3, .slice A4 x.f4.length c4] 40)).cell? ⟨(bd.add (k * 5)).block, (bd.add (k * 5)).off + 2, none⟩ = some (.int .u64 y.f2) := (hb1.cell (World.block_lt_of_cell? w _ m2)).trans m2
      have m3 : (wr.alloc (.cells #[.int .i64 x.f0, .int .i64 x.f1, .int .u64 x.f2, .string x.f3, .slice A4 x.f4.length c4] 40)).cell? ⟨(bd.add (k * 5)).block, (bd.add (k * 5)).off + 3, none⟩ = some (.string y.f3) := (hb1.cell (World.block_lt_of_cell? w _ m3)).trans m3
      have m4 : (wr.alloc (.cells #[.int .i64 x.f0, .int .i64 x.f1, .int .u64 x.f2, .string x.f3, .slice A4 x.f4.length c4] 40)).cell? ⟨(bd.add (k * 5)).block, (bd.add (k * 5)).off + 4, none⟩ = some (.slice B4 y.f4.length d4) := (hb1.cell (World.block_lt_of_cell? w _ m4)).trans m4
      have hb2 := hb1.alloc hb1.size (.cells #[.int .i64 y.f0, .int .i64 y.f1, .int .u64 y.f2, .string y.f3, .slice B4 y.f4.length d4] 40)
      have HX := Lib.hid (HT.out x (List.mem_of_getElem? hrd) y (List.mem_of_getElem? hre))
      have HK := Lib.hid (And.intro hl4 (And.intro hg4 (And.intro ml4 mg4)))
      have HR := Lib.hid (And.intro hrd hre)
      clear hl4 hg4 ml4 mg4 hrd hre
      cases hp : p x y with
      | false =>
        go_wp2_with ((with_reducible refine gateC (n := 26) rfl ?_); go_must (refine goesC (some 29) rfl rfl (f := F) (cap := #[]) hfn hname hbody #[exV A4 c4 x, exV B4 d4 y] rfl rfl (by (try simp only [List.map_toArray, List.map_cons, List.map_nil]); first | done | rfl) ?_; refine (HX.out _ A4 c4 B4 d4 hb2 (Kd.C_below HK.out.2.1 hb2) HK.out.1 (Kd.C_below HK.out.2.2.2 hb2) HK.out.2.2.1).mono ?_; rintro e w2 ⟨rfl, hb3⟩; rw [hp]; refine ⟨_, rfl, ?_⟩; have hb4 := below_next hb2 (by first | exact Nat.le_refl _ | exact hb2.size) hb3; clear hb3))
        go_ret
        exact ⟨by rw [allP_false HR.out.1 HR.out.2 hp]; rfl, hb4⟩
      | true =>
        go_wp2_with ((with_reducible refine gateC (n := 26) rfl ?_); go_must (refine goesC (some 29) rfl rfl (f := F) (cap := #[]) hfn hname hbody #[exV A4 c4 x, exV B4 d4 y] rfl rfl (by (try simp only [List.map_toArray, List.map_cons, List.map_nil]); first | done | rfl) ?_; refine (HX.out _ A4 c4 B4 d4 hb2 (Kd.C_below HK.out.2.1 hb2) HK.out.1 (Kd.C_below HK.out.2.2.2 hb2) HK.out.2.2.1).mono ?_; rintro e w2 ⟨rfl, hb3⟩; rw [hp]; refine ⟨_, rfl, ?_⟩; have hb4 := below_next hb2 (by first | exact Nat.le_refl _ | exact hb2.size) hb3; clear hb3))
        go_roundw
        case rel =>
          refine ⟨k + 1, by omega, by go_num, fun j a b hj ha hb => ?_, hb4⟩
          rcases Nat.lt_or_ge j k with h | h
          · exact hst j a b h ha hb
          · obtain rfl : j = k := by omega
            have h1 := HR.out.1
            have h2 := HR.out.2
            rw [ha] at h1
            rw [hb] at h2
            cases h1
            cases h2
            exact hp
        case measure => simp [intOf]; omega
    · go_wp2_with fail
      go_ret
      exact ⟨by rw [allP_true HM.out (fun j x y h h2 => hst j x y (by have := (List.getElem?_eq_some_iff.1 h).1; omega) h h2)]; rfl, hb⟩
def TestSS (w : World) (F : FuncId) (p : S64 → S64 → Bool) (x y : S64) : Prop :=
  ∀ (w1 : World) A2 c2 A3 c3 A4 c4 B2 d2 B3 d3 B4 d4, Below w.heap.size w w1 → Kd.C k40 w1 A2 x.f2.length x.f2 → x.f2.length ≤ c2 → Kd.C k64 w1 A3 x.f3.length x.f3 → x.f3.length ≤ c3 → Kd.C k64 w1 A4 x.f4.length x.f4 → x.f4.length ≤ c4 → Kd.C k40 w1 B2 y.f2.length y.f2 → y.f2.length ≤ d2 → Kd.C k64 w1 B3 y.f3.length y.f3 → y.f3.length ≤ d3 → Kd.C k64 w1 B4 y.f4.length y.f4 → y.f4.length ≤ d4 → Calls Tryd.prog F #[stV A2 c2 A3 c3 A4 c4 x, stV B2 d2 B3 d3 B4 d4 y] w1 fun e w2 => e = .returned (.bool (p x y)) ∧ Below w1.heap.size w1 w2
set_option maxRecDepth 100000 in
theorem equal_stmt (F : FuncId) (fn : Func) (p : S64 → S64 → Bool) (hfn : Tryd.prog.funcs[F]? = some fn) (hname : (fn.name == "runtime.NumGoroutine") = false) (hbody : fn.body.isSome = true)
    (A : Option Addr) (c : Nat) (l : List S64) (B : Option Addr) (d : Nat) (m : List S64) (w : World) (hC : Kd.C k64 w A l.length l) (hD : Kd.C k64 w B m.length m) (hlen : l.length ≤ 140737488351232) (hT : ∀ x ∈ l, ∀ y ∈ m, TestSS w F p x y) :
    Calls Tryd.prog 34 #[.slice A l.length c, .slice B m.length d, .func (.func F) #[] #[]] w fun e w' => e = .returned (.bool (allP p l m)) ∧ Below w.heap.size w w' := by
  have HB := Lib.hid (Below.refl w.heap.size w)
  by_cases hlm : l.length = m.length
  case neg =>
    have hn : ((l.length : Int) != (m.length : Int)) = true := by simp; omega
    rw [allP_len hlm]
    clear hT hC hD hlm
    go_enter Tryd.func34, Tryd.ntmps34
    go_wp2_with fail
    go_ret
    exact ⟨rfl, HB.out⟩
  have hn : ((l.length : Int) != (m.length : Int)) = false := by simp; omega
  have HC := Lib.hid (And.intro hC hD)
  have HT := Lib.hid hT
  have HM := Lib.hid hlm
  clear hC hD hT hlm
  go_enter Tryd.func34, Tryd.ntmps34
  go_wp2
  clear hn
  go_loopw [17] (fun i wr => ∃ k : Nat, k ≤ l.length ∧ i = .int .i64 k ∧ (∀ (j : Nat) x y, j < k → l[j]? = some x → m[j]? = some y → p x y = true) ∧ Below w.heap.size w wr) (fun i _ => l.length - (intOf i).toNat)
  case atStart => exact ⟨0, by omega, rfl, fun j x y h => absurd h (by omega), HB.out⟩
  case round =>
    obtain ⟨k, hk, rfl, hst, hb⟩ := hrel
    by_cases hlt : k < l.length
    · have hlm2 : k < m.length := by have := HM.out; omega
      obtain ⟨ad, A2, c2, A3, c3, A4, c4, rfl, h0, h1, h2, h3, h4, hl2, hg2, hl3, hg3, hl4, hg4⟩ := at_T64 HC.out.1 (k : Int) (by omega) (by omega)
      obtain ⟨bd, B2, d2, B3, d3, B4, d4, rfl, m0, m1, m2, m3, m4, ml2, mg2, ml3, mg3, ml4, mg4⟩ := at_T64 HC.out.2 (k : Int) (by omega) (by omega)
      have hrd : l[k]? = some (rd_T64 l k) := by
        simp [rd_T64, List.getD_eq_getElem?_getD, hlt]
      have hre : m[k]? = some (rd_T64 m k) := by
        simp [rd_T64, List.getD_eq_getElem?_getD, hlm2]
      generalize rd_T64 l k = x at h0 h1 h2 h3 h4 hl2 hg2 hl3 hg3 hl4 hg4 hrd
      generalize rd_T64 m k = y at m0 m1 m2 m3 m4 ml2 mg2 ml3 mg3 ml4 mg4 hre
      have h0 : wr.cell? (ad.add (k * 5)) = some (.int .i64 x.f0) := (hb.cell (World.block_lt_of_cell? w _ h0)).trans h0
      have h1 : wr.cell? ⟨(ad.add (k * 5)).block, (ad.add (k * 5)).off + 1, none⟩ = some (.string x.f1) := (hb.cell (World.block_lt_of_cell? w _ h1)).trans h1
      have h2 : wr.cell? ⟨(ad.add (k * 5)).block, (ad.add (k * 5)).off + 2, none⟩ = some (.slice A2 x.f2.length c2) := (hb.cell (World.block_lt_of_cell? w _ h2)).trans h2
      have h3 : wr.cell? ⟨(ad.add (k * 5)).block, (ad.add (k * 5)).off + 3, none⟩ = some (.slice A3 x.f3.length c3) := (hb.cell (World.block_lt_of_cell? w _ h3)).trans h3
      have h4 : wr.cell? ⟨(ad.add (k * 5)).block, (ad.add (k * 5)).off + 4, none⟩ = some (.slice A4 x.f4.length c4) := (hb.cell (World.block_lt_of_cell? w _ h4)).trans h4
      have hb1 := hb.alloc hb.size (.cells #[.int .i64 x.f0, .string x.f1, .slice A2 x.f2.length c2, .slice A3 x.f3.length c3, .slice A4 x.f4.length c4] 64)
      have m0 : (wr.alloc (.cells #[.int .i64 x.f0, .string x.f1, .slice A2 x.f2.length c2, .slice A3 x.f3.length c3, .slice A4 x.f4.length c4] 64)).cell? (bd.add (k * 5)) = some (.int .i64 y.f0) := (hb1.cell (World.block_lt_of_cell? w _ m0)).trans m0
      have m1 : (wr.alloc (.cells #[.int .i64 x.f0, .string x.f1, .slice A2 x.f2.length c2, .slice A3 x.f3.length c3, .slice A4 x.f4.length c4] 64)).cell? ⟨(bd.add (k * 5)).block, (bd.add (k * 5)).off + 1, none⟩ = some (.string y.f1) := (hb1.cell (World.block_lt_of_cell? w _ m1)).trans m1
      have m2 : (wr.alloc (.cells #[.int .i64 x.f0, .string x.f1, .slice A2 x.f2.length c2, .slice A3 x.f3.length c3, .slice A4 x.f4.length c4] 64)).cell? ⟨(bd.add (k * 5)).block, (bd.add (k * 5)).off + 2, none⟩ = some (.slice B2 y.f2.length d2) := (hb1.cell (World.block_lt_of_cell? w _ m2)).trans m2
      have m3 : (wr.alloc (.cells #[.int .i64 x.f0, .string x.f1, .slice A2 x.f2.length c2, .slice A3 x.f3.length c3, .slice A4 x.f4.length c4] 64)).cell? ⟨(bd.add (k * 5)).block, (bd.add (k * 5)).off + 3, none⟩ = some (.slice B3 y.f3.length d3) := (hb1.cell (World.block_lt_of_cell? w _ m3)).trans m3
      have m4 : (wr.alloc (.cells #[.int .i64 x.f0, .string x.f1, .slice A2 x.f2.length c2, .slice A3 x.f3.length c3, .slice A4 x.f4.length c4] 64)).cell? ⟨(bd.add (k * 5)).block, (bd.add (k * 5)).off + 4, none⟩ = some (.slice B4 y.f4.length d4) := (hb1.cell (World.block_lt_of_cell? w _ m4)).trans m4
      have hb2 := hb1.alloc hb1.size (.cells #[.int .i64 y.f0, .string y.f1, .slice B2 y.f2.length d2, .slice B3 y.f3.length d3, .slice B4 y.f4.length d4] 64)
      have HX := Lib.hid (HT.out x (List.mem_of_getElem? hrd) y (List.mem_of_getElem? hre))
      have HK := Lib.hid (And.intro hl2 (And.intro hg2 (And.intro hl3 (And.intro hg3 (And.intro hl4 (And.intro hg4 (And.intro ml2 (And.intro mg2 (And.intro ml3 (And.intro mg3 (And.intro ml4 mg4)))))))))))
      have HR := Lib.hid (And.intro hrd hre)
      clear hl2 hg2 hl3 hg3 hl4 hg4 ml2 mg2 ml3 mg3 ml4 mg4 hrd hre
      cases hp : p x y with
      | false =>
        go_wp2_with ((with_reducible refine gateC (n := 26) rfl ?_); go_must (refine goesC (some 29) rfl rfl (f := F) (cap := #[]) hfn hname hbody #[stV A2 c2 A3 c3 A4 c4 x, stV B2 d2 B3 d3 B4 d4 y] rfl rfl (by (try simp only [List.map_toArray, List.map_cons, List.map_nil]); first | done | rfl) ?_; refine (HX.out _ A2 c2 A3 c3 A4 c4 B2 d2 B3 d3 B4 d4 hb2 (Kd.C_below HK.out.2.1 hb2) HK.out.1 (Kd.C_below HK.out.2.2.2.1 hb2) HK.out.2.2.1 (Kd.C_below HK.out.2.2.2.2.2.1 hb2) HK.out.2.2.2.2.1 (Kd.C_below HK.out.2.2.2.2.2.2.2.1 hb2) HK.out.2.2.2.2.2.2.1 (Kd.C_below HK.out.2.2.2.2.2.2.2.2.2.1 hb2) HK.out.2.2.2.2.2.2.2.2.1 (Kd.C_below HK.out.2.2.2.2.2.2.2.2.2.2.2 hb2) HK.out.2.2.2.2.2.2.2.2.2.2.1).mono ?_; rintro e w2 ⟨rfl, hb3⟩; rw [hp]; refine ⟨_, rfl, ?_⟩; have hb4 := below_next hb2 (by first | exact Nat.le_refl _ | exact hb2.size) hb3; clear hb3))
        go_ret
        exact ⟨by rw [allP_false HR.out.1 HR.out.2 hp]; rfl, hb4⟩
      | true =>
        go_wp2_with ((with_reducible refine gateC (n := 26) rfl ?_); go_must (refine goesC (some 29) rfl rfl (f := F) (cap := #[]) hfn hname hbody #[stV A2 c2 A3 c3 A4 c4 x, stV B2 d2 B3 d3 B4 d4 y] rfl rfl (by (try simp only [List.map_toArray, List.map_cons, List.map_nil]); first | done | rfl) ?_; refine (HX.out _ A2 c2 A3 c3 A4 c4 B2 d2 B3 d3 B4 d4 hb2 (Kd.C_below HK.out.2.1 hb2) HK.out.1 (Kd.C_below HK.out.2.2.2.1 hb2) HK.out.2.2.1 (Kd.C_below HK.out.2.2.2.2.2.1 hb2) HK.out.2.2.2.2.1 (Kd.C_below HK.out.2.2.2.2.2.2.2.1 hb2) HK.out.2.2.2.2.2.2.1 (Kd.C_below HK.out.2.2.2.2.2.2.2.2.2.1 hb2) HK.out.2.2.2.2.2.2.2.2.1 (Kd.C_below HK.out.2.2.2.2.2.2.2.2.2.2.2 hb2) HK.out.2.2.2.2.2.2.2.2.2.2.1).mono ?_; rintro e w2 ⟨rfl, hb3⟩; rw [hp]; refine ⟨_, rfl, ?_⟩; have hb4 := below_next hb2 (by first | exact Nat.le_refl _ | exact hb2.size) hb3; clear hb3))
        go_roundw
        case rel =>
          refine ⟨k + 1, by omega, by go_num, fun j a b hj ha hb => ?_, hb4⟩
          rcases Nat.lt_or_ge j k with h | h
          · exact hst j a b h ha hb
          · obtain rfl : j = k := by omega
            have h1 := HR.out.1
            have h2 := HR.out.2
            rw [ha] at h1
            rw [hb] at h2
            cases h1
            cases h2
            exact hp
        case measure => simp [intOf]; omega
    · go_wp2_with fail
      go_ret
      exact ⟨by rw [allP_true HM.out (fun j x y h h2 => hst j x y (by have := (List.getElem?_eq_some_iff.1 h).1; omega) h h2)]; rfl, hb⟩
end Go.Proofs.YtlhnfgnihakcfaaDoor.Ax
