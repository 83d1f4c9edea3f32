import Derived.Test.YtlhnfgnihakcfaaDoorZA4
set_option linter.unusedSimpArgs false
set_option linter.unusedVariables false
namespace Go.Proofs.YtlhnfgnihakcfaaDoor.Ax
open Go.RowKit Hp Kn Lx
open Go.Proofs.YtlhnfgnihakcfaaDoorW.PrintWords Go.Proofs.YtlhnfgnihakcfaaDoorW.PrintLast Go.Proofs.YtlhnfgnihakcfaaDoorW.PrintMore
section
variable {P : Program} {ops : Array Oper} {Q : Exit → Act → World → Prop} {S : World → Prop}
theorem s_callv {i : Nat} {oi : Oper} {N : Option Tmp} {r : List Rg.Step} {a : Act} {w : World} {f : FuncId} {fn : Func} {c : Operand} {xs : Array Operand} {ts : Array TypeId} (hi : ops[i]? = some oi) (hN : oi.dst = N)
    (hf : P.funcs[f]? = some fn) (hname : (fn.name == "runtime.NumGoroutine") = false) (hb : fn.body.isSome = true) (args : Array Value)
    (hw : Region.wanted oi (yielded ops a.tmps) = true) (hop : oi.op = .call { callee := .value c, args := xs, argTypes := ts }) (hc : a.eval c = .func (.func f) #[] #[]) (hargs : xs.map a.eval ++ #[] = args)
    (h : Calls P f args w fun e w' => match e with
      | .returned v => S w' ∧ Rg.Steps P ops Q S r (a.put N v) w'
      | .panicked c => Q (.panic c) a w'
      | .outgrown => LetsOut Q) : Rg.Steps P ops Q S (.one i :: r) a w := by
  subst hN
  refine ⟨oi, hi, fun K hK => ?_⟩
  rw [if_pos hw]
  have he := enters_ hf hname hb args w
  have hrun : (execOp a.eval oi).run P w = .ok (.enter f args) w := by
    unfold execOp
    simp at hargs
    simp [hop, resolve, Deferred.ofValue, invoke, hc, hargs, he]
  unfold Oper.wp
  rw [hrun, Oper.upon_enter]
  refine h.mono fun e w'' hh => ?_
  cases e with
  | returned v => exact hK _ _ hh.1 (fun _ => hh.2)
  | panicked c => exact hh
  | outgrown => exact hh
end
def sizeT (z : Int) : ByteArray := if z = 0 then ⟨#[]⟩ else ⟨#[91]⟩ ++ dec z.toNat ++ ⟨#[93]⟩
def inP (x : S55) : List ByteArray := [⟨#[105, 110, 32]⟩, x.f0, sizeT x.f3, ⟨#[32, 102, 114, 111, 109, 32]⟩, dec x.f1.toNat, ⟨#[58, 32]⟩, dec x.f2.toNat, ⟨#[59]⟩]
def inT (x : S55) : List UInt8 := lineT 0 (inP x)
def arP (x : S58) : List ByteArray := [⟨#[97, 114, 114, 97, 121, 32]⟩, x.f0, ⟨#[91]⟩, dec x.f1.toNat, ⟨#[93, 59]⟩]
def arT (x : S58) : List UInt8 := lineT 0 (arP x)
def fmtB (l0 : List S55) (l1 : List S58) (l2 : List S64) : List UInt8 := l0.flatMap inT ++ l1.flatMap arT ++ l2.flatMap (stT 24 0)
def InOk (x : S55) : Prop := 0 ≤ x.f1 ∧ x.f1 ≤ 1000 ∧ 0 ≤ x.f2 ∧ x.f2 ≤ 1000 ∧ 0 ≤ x.f3 ∧ x.f3 ≤ 1000
def ArOk (x : S58) : Prop := 0 ≤ x.f1 ∧ x.f1 ≤ 1000
theorem flatM_take {α : Type} (f : α → List UInt8) (l : List α) (k : Nat) (x : α) (h : l[k]? = some x) : (l.take (k + 1)).flatMap f = (l.take k).flatMap f ++ f x := by
  rw [List.take_add_one, h]
  simp
theorem flatM_le {α : Type} (f : α → List UInt8) (l : List α) (k : Nat) (x : α) (h : l[k]? = some x) : ((l.take k).flatMap f).length + (f x).length ≤ (l.flatMap f).length := by
  have e := flatM_take f l k x h
  have e2 : l.flatMap f = (l.take (k + 1)).flatMap f ++ (l.drop (k + 1)).flatMap f := by rw [← List.flatMap_append, List.take_append_drop]
  rw [e2, e]
  simp only [List.length_append]
  omega
theorem num_int (z : Int) (h0 : 0 ≤ z) (h1 : z ≤ 1000) (w : World) (htab : Tab w) :
    Calls Tryd.prog 37 #[.int .i64 z] w fun e w' => e = .returned (.string (dec z.toNat)) ∧ Below w.heap.size w w' := by
  obtain ⟨u, rfl⟩ : ∃ u : Nat, z = u := ⟨z.toNat, by omega⟩
  exact num_calls u (by omega) w htab
set_option maxRecDepth 100000 in
set_option maxHeartbeats 8000000 in
theorem format_calls (A0 : Option Addr) (c0 : Nat) (l0 : List S55) (A1 : Option Addr) (c1 : Nat) (l1 : List S58) (A2 : Option Addr) (c2 : Nat) (l2 : List S64) (w : World) (hG : Gx w)
    (hC0 : Kd.C k55 w A0 l0.length l0) (hC1 : Kd.C k58 w A1 l1.length l1) (hC2 : Kd.C k64 w A2 l2.length l2) (hc2 : l2.length ≤ c2)
    (n0 : l0.length ≤ 140737488351232) (n1 : l1.length ≤ 140737488351232) (n2 : l2.length ≤ 140737488351232) (hI : ∀ x ∈ l0, InOk x) (hA : ∀ x ∈ l1, ArOk x) (hO : ∀ x ∈ l2, OkS x) (hv : l2.all (stmtB 24) = true) (hz : (fmtB l0 l1 l2).length ≤ 140737488355328) :
    Calls Tryd.prog 16 #[.agg #[.slice A0 l0.length c0, .slice A1 l1.length c1, .slice A2 l2.length c2]] w fun e w' => e = .returned (.string ⟨(fmtB l0 l1 l2).toArray⟩) ∧ Below w.heap.size w w' := by
  have hz1 : (l0.flatMap inT).length + ((l1.flatMap arT).length + (l2.flatMap (stT 24 0)).length) ≤ 140737488355328 := by
    unfold fmtB at hz
    simp only [List.length_append] at hz
    omega
  have HZ := Lib.hid hz1
  have HC := Lib.hid (And.intro hC0 (And.intro hC1 hC2))
  have HI := Lib.hid (And.intro hG (And.intro hI (And.intro hA (And.intro hO hv))))
  clear hz hz1 hC0 hC1 hC2 hG hI hA hO hv
  go_enter Tryd.func16, Tryd.ntmps16
  go_wp2
  have HX0 := Lib.hid (Blk.alloc (Blk.alloc_new w [.slice A0 l0.length c0, .slice A1 l1.length c1, .slice A2 l2.length c2] 26) (.cells #[.pointer none, .slice none 0 0, .int .i64 0] 73))
  have HB0 := Lib.hid (((Below.refl w.heap.size w).alloc (Nat.le_refl _) (.cells #[.slice A0 l0.length c0, .slice A1 l1.length c1, .slice A2 l2.length c2] 26)).alloc (by simp) (.cells #[.pointer none, .slice none 0 0, .int .i64 0] 73))
  have HP0 : Hid (IsPage w.heap.size (w.heap.size + 1) [] 0 ((w.alloc (.cells #[.slice A0 l0.length c0, .slice A1 l1.length c1, .slice A2 l2.length c2] 26)).alloc (.cells #[.pointer none, .slice none 0 0, .int .i64 0] 73))) := by
    have hb := second_new w (.cells #[.slice A0 l0.length c0, .slice A1 l1.length c1, .slice A2 l2.length c2] 26) [.pointer none, .slice none 0 0, .int .i64 0] 73
    exact Lib.hid (.inl ⟨by omega, .slice none 0 0, hb, World.ownsRow_nil _ _ _ _, by simp [Value.ownBlock]⟩)
  go_loopw [15] (fun i wr => ∃ k : Nat, k ≤ l0.length ∧ i = .int .i64 k ∧ Hid (IsPage w.heap.size (w.heap.size + 1) ((l0.take k).flatMap inT) 0 wr) ∧ Hid (Below w.heap.size w wr) ∧ Hid (Blk wr w.heap.size [.slice A0 l0.length c0, .slice A1 l1.length c1, .slice A2 l2.length c2] 26)) (fun i _ => l0.length - (intOf i).toNat)
  case atStart => exact ⟨0, by omega, rfl, HP0, HB0, HX0⟩
  case round =>
    obtain ⟨k, hk, rfl, hP, hB, hX⟩ := hrel
    clear HX0 HB0 HP0
    by_cases hlt : k < l0.length
    ·
      obtain ⟨x, hs⟩ : ∃ x, l0[k]? = some x := ⟨_, List.getElem?_eq_getElem hlt⟩
      obtain ⟨ad, rfl, h0, h1, h2, h3⟩ := at_T55 HC.out.1 (k : Int) (by omega) (by omega)
      have hrd : rd_T55 l0 (k : Int) = x := by simp [rd_T55, List.getD_eq_getElem?_getD, hs]
      rw [hrd] at h0 h1 h2 h3
      have h0 : wr.cell? (ad.add (k * 4)) = some (.string x.f0) := (hB.out.cell (World.block_lt_of_cell? w _ h0)).trans h0
      have h1 : wr.cell? ⟨(ad.add (k * 4)).block, (ad.add (k * 4)).off + 1, none⟩ = some (.int .i64 x.f1) := (hB.out.cell (World.block_lt_of_cell? w _ h1)).trans h1
      have h2 : wr.cell? ⟨(ad.add (k * 4)).block, (ad.add (k * 4)).off + 2, none⟩ = some (.int .i64 x.f2) := (hB.out.cell (World.block_lt_of_cell? w _ h2)).trans h2
      have h3 : wr.cell? ⟨(ad.add (k * 4)).block, (ad.add (k * 4)).off + 3, none⟩ = some (.int .i64 x.f3) := (hB.out.cell (World.block_lt_of_cell? w _ h3)).trans h3
      have hz2 := flatM_le inT l0 k x hs
      have HR := Lib.hid hs
      have HO := Lib.hid (HI.out.2.1 x (List.mem_of_getElem? hs))
      have HZ2 := Lib.hid hz2
      clear hrd hs hz2
      have HW1 := Lib.hid (Blk.alloc_new wr [.string x.f0, .int .i64 x.f1, .int .i64 x.f2, .int .i64 x.f3] 55)
      have HX1 := Lib.hid (Blk.alloc hX.out (.cells #[.string x.f0, .int .i64 x.f1, .int .i64 x.f2, .int .i64 x.f3] 55))
      have HP1 := Lib.hid (hP.out.below ((Below.refl wr.heap.size wr).alloc (Nat.le_refl _) (.cells #[.string x.f0, .int .i64 x.f1, .int .i64 x.f2, .int .i64 x.f3] 55)))
      have HB1 := Lib.hid (hB.out.alloc hB.out.size (.cells #[.string x.f0, .int .i64 x.f1, .int .i64 x.f2, .int .i64 x.f3] 55))
      by_cases h30 : x.f3 = 0
      · have hz0 : (x.f3 != 0) = false := by rw [h30]; rfl
        have hsz : sizeT x.f3 = ⟨#[]⟩ := by rw [h30]; rfl
        have HT := Lib.hid (show inT x = lineT 0 [⟨#[105, 110, 32]⟩, x.f0, ⟨#[]⟩, ⟨#[32, 102, 114, 111, 109, 32]⟩, dec x.f1.toNat, ⟨#[58, 32]⟩, dec x.f2.toNat, ⟨#[59]⟩] from by unfold inT inP; rw [hsz])
        clear hsz h30
        go_wp2_with fail
        have hS : (fun W => W.cell? ⟨wr.heap.size, 0, none⟩ = some (.string x.f0) ∧ W.cell? ⟨wr.heap.size, 1, none⟩ = some (.int .i64 x.f1) ∧ W.cell? ⟨wr.heap.size, 2, none⟩ = some (.int .i64 x.f2)) (wr.alloc (.cells #[.string x.f0, .int .i64 x.f1, .int .i64 x.f2, .int .i64 x.f3] 55)).drew := ⟨HW1.out.cell 0 rfl, HW1.out.cell 1 rfl, HW1.out.cell 2 rfl⟩
        refine Rg.region_steps (S := (fun W => W.cell? ⟨wr.heap.size, 0, none⟩ = some (.string x.f0) ∧ W.cell? ⟨wr.heap.size, 1, none⟩ = some (.int .i64 x.f1) ∧ W.cell? ⟨wr.heap.size, 2, none⟩ = some (.int .i64 x.f2))) [.any 0, .any 1, .take 2, .any 3, .any 4, .any 5, .take 6, .any 8, .any 9, .take 10, .one 7, .one 11, .one 12, .one 13] (by kernel_rfl) (by kernel_rfl) hS ?_
        refine Rg.p 28 ?_ ?_ rfl rfl (fun _ _ _ h => h) (by rfl) ?_ ?_ ?_; rotate_left 2; (intro w'; go_simp; with_reducible rfl); (simp only [Rg.pq, Rg.pz, Rg.ps]; rfl)
        refine Rg.p 29 ?_ ?_ rfl rfl (fun _ _ _ h => h) (by rfl) ?_ ?_ ?_; rotate_left 2; (intro w'; go_simp; with_reducible rfl); (simp only [Rg.pq, Rg.pz, Rg.ps]; rfl)
        refine Rg.t 30 ?_ ?_ rfl rfl (fun _ _ _ h => h) (by assumption) (by rfl) ?_ ?_ ?_; rotate_left 2; (rintro w' ⟨s0, s1, s2⟩; go_simp; with_reducible rfl); (simp only [Rg.pq, Rg.pz, Rg.ps]; rfl)
        refine Rg.p 31 ?_ ?_ rfl rfl (fun _ _ _ h => h) (by rfl) ?_ ?_ ?_; rotate_left 2; (intro w'; go_simp; with_reducible rfl); (simp only [Rg.pq, Rg.pz, Rg.ps]; rfl)
        refine Rg.p 32 ?_ ?_ rfl rfl (fun _ _ _ h => h) (by rfl) ?_ ?_ ?_; rotate_left 2; (intro w'; go_simp; with_reducible rfl); (simp only [Rg.pq, Rg.pz, Rg.ps]; rfl)
        refine Rg.p 33 ?_ ?_ rfl rfl (fun _ _ _ h => h) (by rfl) ?_ ?_ ?_; rotate_left 2; (intro w'; go_simp; with_reducible rfl); (simp only [Rg.pq, Rg.pz, Rg.ps]; rfl)
        refine Rg.t 34 ?_ ?_ rfl rfl (fun _ _ _ h => h) (by assumption) (by rfl) ?_ ?_ ?_; rotate_left 2; (rintro w' ⟨s0, s1, s2⟩; go_simp; with_reducible rfl); (simp only [Rg.pq, Rg.pz, Rg.ps]; rfl)
        refine Rg.p 36 ?_ ?_ rfl rfl (fun _ _ _ h => h) (by rfl) ?_ ?_ ?_; rotate_left 2; (intro w'; go_simp; with_reducible rfl); (simp only [Rg.pq, Rg.pz, Rg.ps]; rfl)
        refine Rg.p 37 ?_ ?_ rfl rfl (fun _ _ _ h => h) (by rfl) ?_ ?_ ?_; rotate_left 2; (intro w'; go_simp; with_reducible rfl); (simp only [Rg.pq, Rg.pz, Rg.ps]; rfl)
        refine Rg.t 38 ?_ ?_ rfl rfl (fun _ _ _ h => h) (by assumption) (by rfl) ?_ ?_ ?_; rotate_left 2; (rintro w' ⟨s0, s1, s2⟩; go_simp; with_reducible rfl); (simp only [Rg.pq, Rg.pz, Rg.ps]; rfl)
        refine Ax.s_callv (N := some 35) rfl rfl Tryd.func37 (by kernel_rfl) rfl #[.int .i64 x.f1] (by rfl) rfl rfl (by (try simp only [List.map_toArray, List.map_cons, List.map_nil, List.append_nil]); first | done | rfl) ?_
        refine (num_int x.f1 (by have := HO.out; unfold InOk at this; omega) (by have := HO.out; unfold InOk at this; omega) _ (HI.out.1.below HB1.out.drew).2.1).mono ?_
        rintro e v2 ⟨rfl, hc⟩
        have HW2 := Lib.hid (Blk.below (w := (wr.alloc (.cells #[.string x.f0, .int .i64 x.f1, .int .i64 x.f2, .int .i64 x.f3] 55)).drew) HW1.out hc (Blk.lt HW1.out))
        have HX2 := Lib.hid (Blk.below (w := (wr.alloc (.cells #[.string x.f0, .int .i64 x.f1, .int .i64 x.f2, .int .i64 x.f3] 55)).drew) HX1.out hc (Blk.lt HX1.out))
        have HP2 := Lib.hid (IsPage.below (w := (wr.alloc (.cells #[.string x.f0, .int .i64 x.f1, .int .i64 x.f2, .int .i64 x.f3] 55)).drew) HP1.out hc)
        have HB2 := Lib.hid (below_next (w1 := (wr.alloc (.cells #[.string x.f0, .int .i64 x.f1, .int .i64 x.f2, .int .i64 x.f3] 55)).drew) HB1.out.drew (by have := HB1.out.size; omega) hc)
        have hS : (fun W => W.cell? ⟨wr.heap.size, 0, none⟩ = some (.string x.f0) ∧ W.cell? ⟨wr.heap.size, 1, none⟩ = some (.int .i64 x.f1) ∧ W.cell? ⟨wr.heap.size, 2, none⟩ = some (.int .i64 x.f2)) v2 := ⟨HW2.out.cell 0 rfl, HW2.out.cell 1 rfl, HW2.out.cell 2 rfl⟩
        clear hc
        refine ⟨hS, ?_⟩
        refine Rg.s_norm (a' := ?_) ?_ ?_; rotate_left; (simp only [Act.put, List.setIfInBounds_toArray, List.set_cons_zero, List.set_cons_succ]; rfl)
        refine Ax.s_callv (N := some 39) rfl rfl Tryd.func37 (by kernel_rfl) rfl #[.int .i64 x.f2] (by rfl) rfl rfl (by (try simp only [List.map_toArray, List.map_cons, List.map_nil, List.append_nil]); first | done | rfl) ?_
        refine (num_int x.f2 (by have := HO.out; unfold InOk at this; omega) (by have := HO.out; unfold InOk at this; omega) _ (HI.out.1.below HB2.out).2.1).mono ?_
        rintro e v3 ⟨rfl, hc⟩
        have HW3 := Lib.hid (Blk.below (w := v2) HW2.out hc (Blk.lt HW2.out))
        have HX3 := Lib.hid (Blk.below (w := v2) HX2.out hc (Blk.lt HX2.out))
        have HP3 := Lib.hid (IsPage.below (w := v2) HP2.out hc)
        have HB3 := Lib.hid (below_next (w1 := v2) HB2.out (by have := HB2.out.size; omega) hc)
        have hS : (fun W => W.cell? ⟨wr.heap.size, 0, none⟩ = some (.string x.f0) ∧ W.cell? ⟨wr.heap.size, 1, none⟩ = some (.int .i64 x.f1) ∧ W.cell? ⟨wr.heap.size, 2, none⟩ = some (.int .i64 x.f2)) v3 := ⟨HW3.out.cell 0 rfl, HW3.out.cell 1 rfl, HW3.out.cell 2 rfl⟩
        clear hc
        refine ⟨hS, ?_⟩
        refine Rg.s_norm (a' := ?_) ?_ ?_; rotate_left; (simp only [Act.put, List.setIfInBounds_toArray, List.set_cons_zero, List.set_cons_succ]; rfl)
        have HA := Lib.hid (Blk.alloc_new v3 [.string ⟨#[105, 110, 32]⟩, .string x.f0, .string ⟨#[]⟩, .string ⟨#[32, 102, 114, 111, 109, 32]⟩, .string (dec x.f1.toNat), .string ⟨#[58, 32]⟩, .string (dec x.f2.toNat), .string ⟨#[59]⟩] 9)
        have HW4 := Lib.hid (Blk.alloc HW3.out (.cells #[.string ⟨#[105, 110, 32]⟩, .string x.f0, .string ⟨#[]⟩, .string ⟨#[32, 102, 114, 111, 109, 32]⟩, .string (dec x.f1.toNat), .string ⟨#[58, 32]⟩, .string (dec x.f2.toNat), .string ⟨#[59]⟩] 9))
        have HX4 := Lib.hid (Blk.alloc HX3.out (.cells #[.string ⟨#[105, 110, 32]⟩, .string x.f0, .string ⟨#[]⟩, .string ⟨#[32, 102, 114, 111, 109, 32]⟩, .string (dec x.f1.toNat), .string ⟨#[58, 32]⟩, .string (dec x.f2.toNat), .string ⟨#[59]⟩] 9))
        have HP4 := Lib.hid (IsPage.below (w := v3) HP3.out ((Below.refl v3.heap.size v3).alloc (Nat.le_refl _) (.cells #[.string ⟨#[105, 110, 32]⟩, .string x.f0, .string ⟨#[]⟩, .string ⟨#[32, 102, 114, 111, 109, 32]⟩, .string (dec x.f1.toNat), .string ⟨#[58, 32]⟩, .string (dec x.f2.toNat), .string ⟨#[59]⟩] 9)))
        have HB4 := Lib.hid (HB3.out.alloc HB3.out.size (.cells #[.string ⟨#[105, 110, 32]⟩, .string x.f0, .string ⟨#[]⟩, .string ⟨#[32, 102, 114, 111, 109, 32]⟩, .string (dec x.f1.toNat), .string ⟨#[58, 32]⟩, .string (dec x.f2.toNat), .string ⟨#[59]⟩] 9))
        have hS : (fun W => W.cell? ⟨wr.heap.size, 0, none⟩ = some (.string x.f0) ∧ W.cell? ⟨wr.heap.size, 1, none⟩ = some (.int .i64 x.f1) ∧ W.cell? ⟨wr.heap.size, 2, none⟩ = some (.int .i64 x.f2)) (v3.alloc (.cells #[.string ⟨#[105, 110, 32]⟩, .string x.f0, .string ⟨#[]⟩, .string ⟨#[32, 102, 114, 111, 109, 32]⟩, .string (dec x.f1.toNat), .string ⟨#[58, 32]⟩, .string (dec x.f2.toNat), .string ⟨#[59]⟩] 9)) := ⟨HW4.out.cell 0 rfl, HW4.out.cell 1 rfl, HW4.out.cell 2 rfl⟩
        refine Rg.s_value (N := some 40) (a' := ?_) rfl rfl (by rfl) (by go_simp; rfl) hS ?_ ?_; rotate_left; (simp only [Act.put, List.setIfInBounds_toArray, List.set_cons_zero, List.set_cons_succ]; rfl)
        refine Rg.s_call (N := some 41) rfl rfl Tryd.func39 (by kernel_rfl) rfl #[.pointer (some ⟨w.heap.size + 1, 0, none⟩), .slice (some ⟨v3.heap.size, 0, none⟩) 8 8] (by rfl) rfl (by (try simp only [List.map_toArray, List.map_cons, List.map_nil]); first | done | rfl) ?_
        refine (line_calls w.heap.size (w.heap.size + 1) _ 0 (by omega) _ HP4.out [⟨#[105, 110, 32]⟩, x.f0, ⟨#[]⟩, ⟨#[32, 102, 114, 111, 109, 32]⟩, (dec x.f1.toNat), ⟨#[58, 32]⟩, (dec x.f2.toNat), ⟨#[59]⟩] v3.heap.size 8 9 HA.out (by decide) (by have := HP3.out.lt; omega) (by simp) (by have h5 := HZ.out; have h6 := HZ2.out; rw [HT.out] at h6; skip; omega) HB4.out.size).mono ?_
        rintro e v5 ⟨rfl, hp, hb, hk⟩
        have HW5 := Lib.hid (Blk.kept HW4.out hk (by have := hP.out.lt; omega) (by decide))
        have HX5 := Lib.hid (Blk.kept HX4.out hk (by omega) (by decide))
        have HP5 := Lib.hid hp
        have HB5 := Lib.hid (HB4.out.trans hb)
        have hS : (fun W => W.cell? ⟨wr.heap.size, 0, none⟩ = some (.string x.f0) ∧ W.cell? ⟨wr.heap.size, 1, none⟩ = some (.int .i64 x.f1) ∧ W.cell? ⟨wr.heap.size, 2, none⟩ = some (.int .i64 x.f2)) v5 := ⟨HW5.out.cell 0 rfl, HW5.out.cell 1 rfl, HW5.out.cell 2 rfl⟩
        clear hp hb hk
        refine ⟨hS, ?_⟩
        refine Rg.s_norm (a' := ?_) ?_ ?_; rotate_left; (simp only [Act.put, List.setIfInBounds_toArray, List.set_cons_zero, List.set_cons_succ]; rfl)
        refine Rg.s_done ?_
        clear hS
        go_wp2_with fail
        go_roundw
        case rel =>
          refine ⟨k + 1, by omega, by go_num, ?_, HB5, HX5⟩
          rw [flatM_take inT l0 k x HR.out]
          rw [HT.out]
          exact HP5
        case measure => simp [intOf]; omega
      · have hz0 : (x.f3 != 0) = true := by simpa using h30
        have hsz : sizeT x.f3 = ⟨#[91]⟩ ++ dec x.f3.toNat ++ ⟨#[93]⟩ := by unfold sizeT; rw [if_neg h30]
        have hdz := dec_size x.f3.toNat (by have := HO.out; unfold InOk at this; omega)
        have HT := Lib.hid (show inT x = lineT 0 [⟨#[105, 110, 32]⟩, x.f0, (⟨#[91]⟩ ++ dec x.f3.toNat ++ ⟨#[93]⟩), ⟨#[32, 102, 114, 111, 109, 32]⟩, dec x.f1.toNat, ⟨#[58, 32]⟩, dec x.f2.toNat, ⟨#[59]⟩] from by unfold inT inP; rw [hsz])
        clear hsz h30
        have zz1 : ByteArray.size ⟨#[91]⟩ = 1 := rfl
        have zz2 : ByteArray.size ⟨#[93]⟩ = 1 := rfl
        go_wp2_with ((with_reducible refine gateC (n := 22) rfl ?_); go_must (refine goesC (some 25) rfl rfl (f := 37) (cap := #[]) Tryd.func37 (by kernel_rfl) rfl #[.int .i64 x.f3] rfl rfl (by (try simp only [List.map_toArray, List.map_cons, List.map_nil]); first | done | rfl) ?_; refine (num_int x.f3 (by have := HO.out; unfold InOk at this; omega) (by have := HO.out; unfold InOk at this; omega) _ (HI.out.1.below HB1.out).2.1).mono ?_; rintro e v2 ⟨rfl, hc⟩; refine ⟨_, rfl, ?_⟩; (have HW2 := Lib.hid (Blk.below (w := (wr.alloc (.cells #[.string x.f0, .int .i64 x.f1, .int .i64 x.f2, .int .i64 x.f3] 55))) HW1.out hc (Blk.lt HW1.out))); (have HX2 := Lib.hid (Blk.below (w := (wr.alloc (.cells #[.string x.f0, .int .i64 x.f1, .int .i64 x.f2, .int .i64 x.f3] 55))) HX1.out hc (Blk.lt HX1.out))); (have HP2 := Lib.hid (IsPage.below (w := (wr.alloc (.cells #[.string x.f0, .int .i64 x.f1, .int .i64 x.f2, .int .i64 x.f3] 55))) HP1.out hc)); (have HB2 := Lib.hid (below_next (w1 := (wr.alloc (.cells #[.string x.f0, .int .i64 x.f1, .int .i64 x.f2, .int .i64 x.f3] 55))) HB1.out (by have := HB1.out.size; omega) hc)); clear hc))
        generalize (⟨#[91]⟩ ++ dec x.f3.toNat ++ ⟨#[93]⟩ : ByteArray) = sz at HT ⊢
        have hS : (fun W => W.cell? ⟨wr.heap.size, 0, none⟩ = some (.string x.f0) ∧ W.cell? ⟨wr.heap.size, 1, none⟩ = some (.int .i64 x.f1) ∧ W.cell? ⟨wr.heap.size, 2, none⟩ = some (.int .i64 x.f2)) v2.drew := ⟨HW2.out.cell 0 rfl, HW2.out.cell 1 rfl, HW2.out.cell 2 rfl⟩
        refine Rg.region_steps (S := (fun W => W.cell? ⟨wr.heap.size, 0, none⟩ = some (.string x.f0) ∧ W.cell? ⟨wr.heap.size, 1, none⟩ = some (.int .i64 x.f1) ∧ W.cell? ⟨wr.heap.size, 2, none⟩ = some (.int .i64 x.f2))) [.any 0, .any 1, .take 2, .any 3, .any 4, .any 5, .take 6, .any 8, .any 9, .take 10, .one 7, .one 11, .one 12, .one 13] (by kernel_rfl) (by kernel_rfl) hS ?_
        refine Rg.p 28 ?_ ?_ rfl rfl (fun _ _ _ h => h) (by rfl) ?_ ?_ ?_; rotate_left 2; (intro w'; go_simp; with_reducible rfl); (simp only [Rg.pq, Rg.pz, Rg.ps]; rfl)
        refine Rg.p 29 ?_ ?_ rfl rfl (fun _ _ _ h => h) (by rfl) ?_ ?_ ?_; rotate_left 2; (intro w'; go_simp; with_reducible rfl); (simp only [Rg.pq, Rg.pz, Rg.ps]; rfl)
        refine Rg.t 30 ?_ ?_ rfl rfl (fun _ _ _ h => h) (by assumption) (by rfl) ?_ ?_ ?_; rotate_left 2; (rintro w' ⟨s0, s1, s2⟩; go_simp; with_reducible rfl); (simp only [Rg.pq, Rg.pz, Rg.ps]; rfl)
        refine Rg.p 31 ?_ ?_ rfl rfl (fun _ _ _ h => h) (by rfl) ?_ ?_ ?_; rotate_left 2; (intro w'; go_simp; with_reducible rfl); (simp only [Rg.pq, Rg.pz, Rg.ps]; rfl)
        refine Rg.p 32 ?_ ?_ rfl rfl (fun _ _ _ h => h) (by rfl) ?_ ?_ ?_; rotate_left 2; (intro w'; go_simp; with_reducible rfl); (simp only [Rg.pq, Rg.pz, Rg.ps]; rfl)
        refine Rg.p 33 ?_ ?_ rfl rfl (fun _ _ _ h => h) (by rfl) ?_ ?_ ?_; rotate_left 2; (intro w'; go_simp; with_reducible rfl); (simp only [Rg.pq, Rg.pz, Rg.ps]; rfl)
        refine Rg.t 34 ?_ ?_ rfl rfl (fun _ _ _ h => h) (by assumption) (by rfl) ?_ ?_ ?_; rotate_left 2; (rintro w' ⟨s0, s1, s2⟩; go_simp; with_reducible rfl); (simp only [Rg.pq, Rg.pz, Rg.ps]; rfl)
        refine Rg.p 36 ?_ ?_ rfl rfl (fun _ _ _ h => h) (by rfl) ?_ ?_ ?_; rotate_left 2; (intro w'; go_simp; with_reducible rfl); (simp only [Rg.pq, Rg.pz, Rg.ps]; rfl)
        refine Rg.p 37 ?_ ?_ rfl rfl (fun _ _ _ h => h) (by rfl) ?_ ?_ ?_; rotate_left 2; (intro w'; go_simp; with_reducible rfl); (simp only [Rg.pq, Rg.pz, Rg.ps]; rfl)
        refine Rg.t 38 ?_ ?_ rfl rfl (fun _ _ _ h => h) (by assumption) (by rfl) ?_ ?_ ?_; rotate_left 2; (rintro w' ⟨s0, s1, s2⟩; go_simp; with_reducible rfl); (simp only [Rg.pq, Rg.pz, Rg.ps]; rfl)
        refine Ax.s_callv (N := some 35) rfl rfl Tryd.func37 (by kernel_rfl) rfl #[.int .i64 x.f1] (by rfl) rfl rfl (by (try simp only [List.map_toArray, List.map_cons, List.map_nil, List.append_nil]); first | done | rfl) ?_
        refine (num_int x.f1 (by have := HO.out; unfold InOk at this; omega) (by have := HO.out; unfold InOk at this; omega) _ (HI.out.1.below HB2.out.drew).2.1).mono ?_
        rintro e v3 ⟨rfl, hc⟩
        have HW3 := Lib.hid (Blk.below (w := v2.drew) HW2.out hc (Blk.lt HW2.out))
        have HX3 := Lib.hid (Blk.below (w := v2.drew) HX2.out hc (Blk.lt HX2.out))
        have HP3 := Lib.hid (IsPage.below (w := v2.drew) HP2.out hc)
        have HB3 := Lib.hid (below_next (w1 := v2.drew) HB2.out.drew (by have := HB2.out.size; omega) hc)
        have hS : (fun W => W.cell? ⟨wr.heap.size, 0, none⟩ = some (.string x.f0) ∧ W.cell? ⟨wr.heap.size, 1, none⟩ = some (.int .i64 x.f1) ∧ W.cell? ⟨wr.heap.size, 2, none⟩ = some (.int .i64 x.f2)) v3 := ⟨HW3.out.cell 0 rfl, HW3.out.cell 1 rfl, HW3.out.cell 2 rfl⟩
        clear hc
        refine ⟨hS, ?_⟩
        refine Rg.s_norm (a' := ?_) ?_ ?_; rotate_left; (simp only [Act.put, List.setIfInBounds_toArray, List.set_cons_zero, List.set_cons_succ]; rfl)
        refine Ax.s_callv (N := some 39) rfl rfl Tryd.func37 (by kernel_rfl) rfl #[.int .i64 x.f2] (by rfl) rfl rfl (by (try simp only [List.map_toArray, List.map_cons, List.map_nil, List.append_nil]); first | done | rfl) ?_
        refine (num_int x.f2 (by have := HO.out; unfold InOk at this; omega) (by have := HO.out; unfold InOk at this; omega) _ (HI.out.1.below HB3.out).2.1).mono ?_
        rintro e v4 ⟨rfl, hc⟩
        have HW4 := Lib.hid (Blk.below (w := v3) HW3.out hc (Blk.lt HW3.out))
        have HX4 := Lib.hid (Blk.below (w := v3) HX3.out hc (Blk.lt HX3.out))
        have HP4 := Lib.hid (IsPage.below (w := v3) HP3.out hc)
        have HB4 := Lib.hid (below_next (w1 := v3) HB3.out (by have := HB3.out.size; omega) hc)
        have hS : (fun W => W.cell? ⟨wr.heap.size, 0, none⟩ = some (.string x.f0) ∧ W.cell? ⟨wr.heap.size, 1, none⟩ = some (.int .i64 x.f1) ∧ W.cell? ⟨wr.heap.size, 2, none⟩ = some (.int .i64 x.f2)) v4 := ⟨HW4.out.cell 0 rfl, HW4.out.cell 1 rfl, HW4.out.cell 2 rfl⟩
        clear hc
        refine ⟨hS, ?_⟩
        refine Rg.s_norm (a' := ?_) ?_ ?_; rotate_left; (simp only [Act.put, List.setIfInBounds_toArray, List.set_cons_zero, List.set_cons_succ]; rfl)
        have HA := Lib.hid (Blk.alloc_new v4 [.string ⟨#[105, 110, 32]⟩, .string x.f0, .string sz, .string ⟨#[32, 102, 114, 111, 109, 32]⟩, .string (dec x.f1.toNat), .string ⟨#[58, 32]⟩, .string (dec x.f2.toNat), .string ⟨#[59]⟩] 9)
        have HW5 := Lib.hid (Blk.alloc HW4.out (.cells #[.string ⟨#[105, 110, 32]⟩, .string x.f0, .string sz, .string ⟨#[32, 102, 114, 111, 109, 32]⟩, .string (dec x.f1.toNat), .string ⟨#[58, 32]⟩, .string (dec x.f2.toNat), .string ⟨#[59]⟩] 9))
        have HX5 := Lib.hid (Blk.alloc HX4.out (.cells #[.string ⟨#[105, 110, 32]⟩, .string x.f0, .string sz, .string ⟨#[32, 102, 114, 111, 109, 32]⟩, .string (dec x.f1.toNat), .string ⟨#[58, 32]⟩, .string (dec x.f2.toNat), .string ⟨#[59]⟩] 9))
        have HP5 := Lib.hid (IsPage.below (w := v4) HP4.out ((Below.refl v4.heap.size v4).alloc (Nat.le_refl _) (.cells #[.string ⟨#[105, 110, 32]⟩, .string x.f0, .string sz, .string ⟨#[32, 102, 114, 111, 109, 32]⟩, .string (dec x.f1.toNat), .string ⟨#[58, 32]⟩, .string (dec x.f2.toNat), .string ⟨#[59]⟩] 9)))
        have HB5 := Lib.hid (HB4.out.alloc HB4.out.size (.cells #[.string ⟨#[105, 110, 32]⟩, .string x.f0, .string sz, .string ⟨#[32, 102, 114, 111, 109, 32]⟩, .string (dec x.f1.toNat), .string ⟨#[58, 32]⟩, .string (dec x.f2.toNat), .string ⟨#[59]⟩] 9))
        have hS : (fun W => W.cell? ⟨wr.heap.size, 0, none⟩ = some (.string x.f0) ∧ W.cell? ⟨wr.heap.size, 1, none⟩ = some (.int .i64 x.f1) ∧ W.cell? ⟨wr.heap.size, 2, none⟩ = some (.int .i64 x.f2)) (v4.alloc (.cells #[.string ⟨#[105, 110, 32]⟩, .string x.f0, .string sz, .string ⟨#[32, 102, 114, 111, 109, 32]⟩, .string (dec x.f1.toNat), .string ⟨#[58, 32]⟩, .string (dec x.f2.toNat), .string ⟨#[59]⟩] 9)) := ⟨HW5.out.cell 0 rfl, HW5.out.cell 1 rfl, HW5.out.cell 2 rfl⟩
        refine Rg.s_value (N := some 40) (a' := ?_) rfl rfl (by rfl) (by go_simp; rfl) hS ?_ ?_; rotate_left; (simp only [Act.put, List.setIfInBounds_toArray, List.set_cons_zero, List.set_cons_succ]; rfl)
        refine Rg.s_call (N := some 41) rfl rfl Tryd.func39 (by kernel_rfl) rfl #[.pointer (some ⟨w.heap.size + 1, 0, none⟩), .slice (some ⟨v4.heap.size, 0, none⟩) 8 8] (by rfl) rfl (by (try simp only [List.map_toArray, List.map_cons, List.map_nil]); first | done | rfl) ?_
        refine (line_calls w.heap.size (w.heap.size + 1) _ 0 (by omega) _ HP5.out [⟨#[105, 110, 32]⟩, x.f0, sz, ⟨#[32, 102, 114, 111, 109, 32]⟩, (dec x.f1.toNat), ⟨#[58, 32]⟩, (dec x.f2.toNat), ⟨#[59]⟩] v4.heap.size 8 9 HA.out (by decide) (by have := HP4.out.lt; omega) (by simp) (by have h5 := HZ.out; have h6 := HZ2.out; rw [HT.out] at h6; skip; omega) HB5.out.size).mono ?_
        rintro e v6 ⟨rfl, hp, hb, hk⟩
        have HW6 := Lib.hid (Blk.kept HW5.out hk (by have := hP.out.lt; omega) (by decide))
        have HX6 := Lib.hid (Blk.kept HX5.out hk (by omega) (by decide))
        have HP6 := Lib.hid hp
        have HB6 := Lib.hid (HB5.out.trans hb)
        have hS : (fun W => W.cell? ⟨wr.heap.size, 0, none⟩ = some (.string x.f0) ∧ W.cell? ⟨wr.heap.size, 1, none⟩ = some (.int .i64 x.f1) ∧ W.cell? ⟨wr.heap.size, 2, none⟩ = some (.int .i64 x.f2)) v6 := ⟨HW6.out.cell 0 rfl, HW6.out.cell 1 rfl, HW6.out.cell 2 rfl⟩
        clear hp hb hk
        refine ⟨hS, ?_⟩
        refine Rg.s_norm (a' := ?_) ?_ ?_; rotate_left; (simp only [Act.put, List.setIfInBounds_toArray, List.set_cons_zero, List.set_cons_succ]; rfl)
        refine Rg.s_done ?_
        clear hS
        go_wp2_with fail
        go_roundw
        case rel =>
          refine ⟨k + 1, by omega, by go_num, ?_, HB6, HX6⟩
          rw [flatM_take inT l0 k x HR.out]
          rw [HT.out]
          exact HP6
        case measure => simp [intOf]; omega
    · have x1 : wr.cell? ⟨w.heap.size, 1, none⟩ = some (.slice A1 l1.length c1) := hX.out.cell 1 rfl
      have hP : Hid (IsPage w.heap.size (w.heap.size + 1) (l0.flatMap inT) 0 wr) := by have := hP.out; rwa [List.take_of_length_le (by omega)] at this
      go_wp2
      clear x1
      go_loopw [46] (fun i wr2 => ∃ k2 : Nat, k2 ≤ l1.length ∧ i = .int .i64 k2 ∧ Hid (IsPage w.heap.size (w.heap.size + 1) (l0.flatMap inT ++ (l1.take k2).flatMap arT) 0 wr2) ∧ Hid (Below w.heap.size w wr2) ∧ Hid (Blk wr2 w.heap.size [.slice A0 l0.length c0, .slice A1 l1.length c1, .slice A2 l2.length c2] 26)) (fun i _ => l1.length - (intOf i).toNat)
      case atStart => exact ⟨0, by omega, rfl, by simpa using hP, hB, hX⟩
      case round =>
        obtain ⟨k, hk, rfl, hP, hB, hX⟩ := hrel
        by_cases hlt : k < l1.length
        ·
          obtain ⟨x, hs⟩ : ∃ x, l1[k]? = some x := ⟨_, List.getElem?_eq_getElem hlt⟩
          obtain ⟨ad, rfl, h0, h1⟩ := at_T58 HC.out.2.1 (k : Int) (by omega) (by omega)
          have hrd : rd_T58 l1 (k : Int) = x := by simp [rd_T58, List.getD_eq_getElem?_getD, hs]
          rw [hrd] at h0 h1
          have h0 : wr.cell? (ad.add (k * 2)) = some (.string x.f0) := (hB.out.cell (World.block_lt_of_cell? w _ h0)).trans h0
          have h1 : wr.cell? ⟨(ad.add (k * 2)).block, (ad.add (k * 2)).off + 1, none⟩ = some (.int .i64 x.f1) := (hB.out.cell (World.block_lt_of_cell? w _ h1)).trans h1
          have hz2 := flatM_le arT l1 k x hs
          have HR := Lib.hid hs
          have HO := Lib.hid (HI.out.2.2.1 x (List.mem_of_getElem? hs))
          have HZ2 := Lib.hid hz2
          clear hrd hs hz2
          have HT := Lib.hid (show arT x = lineT 0 [⟨#[97, 114, 114, 97, 121, 32]⟩, x.f0, ⟨#[91]⟩, dec x.f1.toNat, ⟨#[93, 59]⟩] from rfl)
          have HW1 := Lib.hid (Blk.alloc_new wr [.string x.f0, .int .i64 x.f1] 58)
          have HX1 := Lib.hid (Blk.alloc hX.out (.cells #[.string x.f0, .int .i64 x.f1] 58))
          have HP1 := Lib.hid (hP.out.below ((Below.refl wr.heap.size wr).alloc (Nat.le_refl _) (.cells #[.string x.f0, .int .i64 x.f1] 58)))
          have HB1 := Lib.hid (hB.out.alloc hB.out.size (.cells #[.string x.f0, .int .i64 x.f1] 58))
          go_wp2_with fail
          have hS : (fun W => W.cell? ⟨wr.heap.size, 0, none⟩ = some (.string x.f0) ∧ W.cell? ⟨wr.heap.size, 1, none⟩ = some (.int .i64 x.f1)) (wr.alloc (.cells #[.string x.f0, .int .i64 x.f1] 58)).drew := ⟨HW1.out.cell 0 rfl, HW1.out.cell 1 rfl⟩
          refine Rg.region_steps (S := (fun W => W.cell? ⟨wr.heap.size, 0, none⟩ = some (.string x.f0) ∧ W.cell? ⟨wr.heap.size, 1, none⟩ = some (.int .i64 x.f1))) [.any 0, .any 1, .take 2, .any 3, .any 4, .take 5, .one 6, .one 7, .one 8] (by kernel_rfl) (by kernel_rfl) hS ?_
          refine Rg.p 50 ?_ ?_ rfl rfl (fun _ _ _ h => h) (by rfl) ?_ ?_ ?_; rotate_left 2; (intro w'; go_simp; with_reducible rfl); (simp only [Rg.pq, Rg.pz, Rg.ps]; rfl)
          refine Rg.p 51 ?_ ?_ rfl rfl (fun _ _ _ h => h) (by rfl) ?_ ?_ ?_; rotate_left 2; (intro w'; go_simp; with_reducible rfl); (simp only [Rg.pq, Rg.pz, Rg.ps]; rfl)
          refine Rg.t 52 ?_ ?_ rfl rfl (fun _ _ _ h => h) (by assumption) (by rfl) ?_ ?_ ?_; rotate_left 2; (rintro w' ⟨s0, s1⟩; go_simp; with_reducible rfl); (simp only [Rg.pq, Rg.pz, Rg.ps]; rfl)
          refine Rg.p 53 ?_ ?_ rfl rfl (fun _ _ _ h => h) (by rfl) ?_ ?_ ?_; rotate_left 2; (intro w'; go_simp; with_reducible rfl); (simp only [Rg.pq, Rg.pz, Rg.ps]; rfl)
          refine Rg.p 54 ?_ ?_ rfl rfl (fun _ _ _ h => h) (by rfl) ?_ ?_ ?_; rotate_left 2; (intro w'; go_simp; with_reducible rfl); (simp only [Rg.pq, Rg.pz, Rg.ps]; rfl)
          refine Rg.t 55 ?_ ?_ rfl rfl (fun _ _ _ h => h) (by assumption) (by rfl) ?_ ?_ ?_; rotate_left 2; (rintro w' ⟨s0, s1⟩; go_simp; with_reducible rfl); (simp only [Rg.pq, Rg.pz, Rg.ps]; rfl)
          refine Ax.s_callv (N := some 56) rfl rfl Tryd.func37 (by kernel_rfl) rfl #[.int .i64 x.f1] (by rfl) rfl rfl (by (try simp only [List.map_toArray, List.map_cons, List.map_nil, List.append_nil]); first | done | rfl) ?_
          refine (num_int x.f1 (by have := HO.out; unfold ArOk at this; omega) (by have := HO.out; unfold ArOk at this; omega) _ (HI.out.1.below HB1.out.drew).2.1).mono ?_
          rintro e v2 ⟨rfl, hc⟩
          have HW2 := Lib.hid (Blk.below (w := (wr.alloc (.cells #[.string x.f0, .int .i64 x.f1] 58)).drew) HW1.out hc (Blk.lt HW1.out))
          have HX2 := Lib.hid (Blk.below (w := (wr.alloc (.cells #[.string x.f0, .int .i64 x.f1] 58)).drew) HX1.out hc (Blk.lt HX1.out))
          have HP2 := Lib.hid (IsPage.below (w := (wr.alloc (.cells #[.string x.f0, .int .i64 x.f1] 58)).drew) HP1.out hc)
          have HB2 := Lib.hid (below_next (w1 := (wr.alloc (.cells #[.string x.f0, .int .i64 x.f1] 58)).drew) HB1.out.drew (by have := HB1.out.size; omega) hc)
          have hS : (fun W => W.cell? ⟨wr.heap.size, 0, none⟩ = some (.string x.f0) ∧ W.cell? ⟨wr.heap.size, 1, none⟩ = some (.int .i64 x.f1)) v2 := ⟨HW2.out.cell 0 rfl, HW2.out.cell 1 rfl⟩
          clear hc
          refine ⟨hS, ?_⟩
          refine Rg.s_norm (a' := ?_) ?_ ?_; rotate_left; (simp only [Act.put, List.setIfInBounds_toArray, List.set_cons_zero, List.set_cons_succ]; rfl)
          have HA := Lib.hid (Blk.alloc_new v2 [.string ⟨#[97, 114, 114, 97, 121, 32]⟩, .string x.f0, .string ⟨#[91]⟩, .string (dec x.f1.toNat), .string ⟨#[93, 59]⟩] 9)
          have HW3 := Lib.hid (Blk.alloc HW2.out (.cells #[.string ⟨#[97, 114, 114, 97, 121, 32]⟩, .string x.f0, .string ⟨#[91]⟩, .string (dec x.f1.toNat), .string ⟨#[93, 59]⟩] 9))
          have HX3 := Lib.hid (Blk.alloc HX2.out (.cells #[.string ⟨#[97, 114, 114, 97, 121, 32]⟩, .string x.f0, .string ⟨#[91]⟩, .string (dec x.f1.toNat), .string ⟨#[93, 59]⟩] 9))
          have HP3 := Lib.hid (IsPage.below (w := v2) HP2.out ((Below.refl v2.heap.size v2).alloc (Nat.le_refl _) (.cells #[.string ⟨#[97, 114, 114, 97, 121, 32]⟩, .string x.f0, .string ⟨#[91]⟩, .string (dec x.f1.toNat), .string ⟨#[93, 59]⟩] 9)))
          have HB3 := Lib.hid (HB2.out.alloc HB2.out.size (.cells #[.string ⟨#[97, 114, 114, 97, 121, 32]⟩, .string x.f0, .string ⟨#[91]⟩, .string (dec x.f1.toNat), .string ⟨#[93, 59]⟩] 9))
          have hS : (fun W => W.cell? ⟨wr.heap.size, 0, none⟩ = some (.string x.f0) ∧ W.cell? ⟨wr.heap.size, 1, none⟩ = some (.int .i64 x.f1)) (v2.alloc (.cells #[.string ⟨#[97, 114, 114, 97, 121, 32]⟩, .string x.f0, .string ⟨#[91]⟩, .string (dec x.f1.toNat), .string ⟨#[93, 59]⟩] 9)) := ⟨HW3.out.cell 0 rfl, HW3.out.cell 1 rfl⟩
          refine Rg.s_value (N := some 57) (a' := ?_) rfl rfl (by rfl) (by go_simp; rfl) hS ?_ ?_; rotate_left; (simp only [Act.put, List.setIfInBounds_toArray, List.set_cons_zero, List.set_cons_succ]; rfl)
          refine Rg.s_call (N := some 58) rfl rfl Tryd.func39 (by kernel_rfl) rfl #[.pointer (some ⟨w.heap.size + 1, 0, none⟩), .slice (some ⟨v2.heap.size, 0, none⟩) 5 5] (by rfl) rfl (by (try simp only [List.map_toArray, List.map_cons, List.map_nil]); first | done | rfl) ?_
          refine (line_calls w.heap.size (w.heap.size + 1) _ 0 (by omega) _ HP3.out [⟨#[97, 114, 114, 97, 121, 32]⟩, x.f0, ⟨#[91]⟩, (dec x.f1.toNat), ⟨#[93, 59]⟩] v2.heap.size 5 9 HA.out (by decide) (by have := HP2.out.lt; omega) (by simp) (by have h5 := HZ.out; have h6 := HZ2.out; rw [HT.out] at h6; simp only [List.length_append]; omega) HB3.out.size).mono ?_
          rintro e v4 ⟨rfl, hp, hb, hk⟩
          have HW4 := Lib.hid (Blk.kept HW3.out hk (by have := hP.out.lt; omega) (by decide))
          have HX4 := Lib.hid (Blk.kept HX3.out hk (by omega) (by decide))
          have HP4 := Lib.hid hp
          have HB4 := Lib.hid (HB3.out.trans hb)
          have hS : (fun W => W.cell? ⟨wr.heap.size, 0, none⟩ = some (.string x.f0) ∧ W.cell? ⟨wr.heap.size, 1, none⟩ = some (.int .i64 x.f1)) v4 := ⟨HW4.out.cell 0 rfl, HW4.out.cell 1 rfl⟩
          clear hp hb hk
          refine ⟨hS, ?_⟩
          refine Rg.s_norm (a' := ?_) ?_ ?_; rotate_left; (simp only [Act.put, List.setIfInBounds_toArray, List.set_cons_zero, List.set_cons_succ]; rfl)
          refine Rg.s_done ?_
          clear hS
          go_wp2_with fail
          go_roundw
          case rel =>
            refine ⟨k + 1, by omega, by go_num, ?_, HB4, HX4⟩
            rw [flatM_take arT l1 k x HR.out]
            rw [HT.out, ← List.append_assoc]
            exact HP4
          case measure => simp [intOf]; omega
        · have x2 : wr.cell? ⟨w.heap.size, 2, none⟩ = some (.slice A2 l2.length c2) := hX.out.cell 2 rfl
          have hP : Hid (IsPage w.heap.size (w.heap.size + 1) (l0.flatMap inT ++ l1.flatMap arT) ((0 : Nat) : Int) wr) := by have := hP.out; rwa [List.take_of_length_le (by omega)] at this
          go_wp2_with fail
          refine (stmts_calls 24 (by omega) w HI.out.1 l2 HI.out.2.2.2.1 HI.out.2.2.2.2 n2 A2 c2 HC.out.2.2 hc2 _ _ 0 (by omega) _ hB.out hP.out (by have := HZ.out; simp only [List.length_append]; omega)).mono ?_
          rintro e w5 ⟨rfl, hp, hb, hk⟩
          have HP5 := Lib.hid hp
          have HB5 := Lib.hid (hB.out.trans hb)
          clear hp hb hk x2
          go_wp2_with fail
          refine (pg_string w.heap.size _ _ _ _ HP5.out HB5.out.size).mono ?_
          rintro e w6 ⟨rfl, hb⟩
          go_wp2_with fail
          go_ret
          exact ⟨by unfold fmtB; rw [List.append_assoc]; rfl, HB5.out.trans hb⟩
end Go.Proofs.YtlhnfgnihakcfaaDoor.Ax
set_option linter.unusedSimpArgs false
set_option linter.unusedVariables false
namespace Go.Proofs.YtlhnfgnihakcfaaDoor.Ax
open Go.RowKit Hp Kn Lx
open Go.Proofs.YtlhnfgnihakcfaaDoorW.PrintWords Go.Proofs.YtlhnfgnihakcfaaDoorW.PrintLast Go.Proofs.YtlhnfgnihakcfaaDoorW.PrintMore
def inB (x : S55) : Bool := Px.isName x.f0.data.toList && !decide (x.f1 < 1) && !decide (13 < x.f1) && !decide (x.f2 < 1) && !decide (16 < x.f2) && !decide (x.f3 < 0) && !decide (64 < x.f3)
def arB (x : S58) : Bool := Px.isName x.f0.data.toList && !decide (x.f1 < 1) && !decide (64 < x.f1)
def validB (l0 : List S55) (l1 : List S58) (l2 : List S64) : Bool := l0.all inB && l1.all arB && l2.all (stmtB 24) && decide ((fmtB l0 l1 l2).length ≤ 20000)
theorem all_step {α : Type} {p : α → Bool} {l : List α} {k : Nat} {x : α} (h : (l.take k).all p = true) (hx : l[k]? = some x) (hp : p x = true) : (l.take (k + 1)).all p = true := by
  rw [List.take_add_one, hx]; simp [hp]; simpa using h
theorem all_fail {α : Type} {p : α → Bool} {l : List α} {k : Nat} {x : α} (hx : l[k]? = some x) (hp : p x = false) : l.all p = false := by
  rw [List.all_eq_false]; exact ⟨x, List.mem_of_getElem? hx, by simp [hp]⟩
theorem inB_ok {x : S55} (h : inB x = true) : InOk x := by
  simp only [inB, Bool.and_eq_true, Bool.not_eq_true', decide_eq_false_iff_not] at h
  unfold InOk; omega
theorem arB_ok {x : S58} (h : arB x = true) : ArOk x := by
  simp only [arB, Bool.and_eq_true, Bool.not_eq_true', decide_eq_false_iff_not] at h
  unfold ArOk; omega
theorem validB_no0 {l0 : List S55} {l1 : List S58} {l2 : List S64} (h : l0.all inB = false) : validB l0 l1 l2 = false := by unfold validB; rw [h]; rfl
theorem validB_no1 {l0 : List S55} {l1 : List S58} {l2 : List S64} (h : l1.all arB = false) : validB l0 l1 l2 = false := by unfold validB; rw [h]; simp
set_option maxRecDepth 100000 in
set_option maxHeartbeats 8000000 in
theorem valid_calls (A0 : Option Addr) (c0 : Nat) (l0 : List S55) (A1 : Option Addr) (c1 : Nat) (l1 : List S58) (A2 : Option Addr) (c2 : Nat) (l2 : List S64) (w : World) (hG : Gx w)
    (hC0 : Kd.C k55 w A0 l0.length l0) (hC1 : Kd.C k58 w A1 l1.length l1) (hC2 : Kd.C k64 w A2 l2.length l2) (hc2 : l2.length ≤ c2)
    (n0 : l0.length ≤ 140737488351232) (n1 : l1.length ≤ 140737488351232) (n2 : l2.length ≤ 140737488351232) (hI : ∀ x ∈ l0, x.f0.size ≤ 140737488351232) (hA : ∀ x ∈ l1, x.f0.size ≤ 140737488351232) (hO : ∀ x ∈ l2, OkS x)
    (hz : l0.all inB = true → l1.all arB = true → l2.all (stmtB 24) = true → (fmtB l0 l1 l2).length ≤ 140737488355328) :
    Calls Tryd.prog 12 #[.agg #[.slice A0 l0.length c0, .slice A1 l1.length c1, .slice A2 l2.length c2]] w fun e w' => e = .returned (.bool (validB l0 l1 l2)) ∧ Below w.heap.size w w' := by
  have HZ := Lib.hid hz
  have HC := Lib.hid (And.intro hC0 (And.intro hC1 hC2))
  have HI := Lib.hid (And.intro hG (And.intro hI (And.intro hA hO)))
  clear hz hC0 hC1 hC2 hG hI hA hO
  go_enter Tryd.func12, Tryd.ntmps12
  go_wp2
  have HX0 := Lib.hid (Blk.alloc_new w [.slice A0 l0.length c0, .slice A1 l1.length c1, .slice A2 l2.length c2] 26)
  have HB0 := Lib.hid ((Below.refl w.heap.size w).alloc (Nat.le_refl _) (.cells #[.slice A0 l0.length c0, .slice A1 l1.length c1, .slice A2 l2.length c2] 26))
  go_loopw [10] (fun i wr => ∃ k : Nat, k ≤ l0.length ∧ i = .int .i64 k ∧ Hid ((l0.take k).all inB = true) ∧ Hid (Below w.heap.size w wr) ∧ Hid (Blk wr w.heap.size [.slice A0 l0.length c0, .slice A1 l1.length c1, .slice A2 l2.length c2] 26)) (fun i _ => l0.length - (intOf i).toNat)
  case atStart => exact ⟨0, by omega, rfl, by simp [Hid], HB0, HX0⟩
  case round =>
    obtain ⟨k, hk, rfl, hA, hB, hX⟩ := hrel
    clear HX0 HB0
    by_cases hlt : k < l0.length
    ·
      obtain ⟨x, hs⟩ : ∃ x, l0[k]? = some x := ⟨_, List.getElem?_eq_getElem hlt⟩
      obtain ⟨ad, rfl, h0, h1, h2, h3⟩ := at_T55 HC.out.1 (k : Int) (by omega) (by omega)
      have hrd : rd_T55 l0 (k : Int) = x := by simp [rd_T55, List.getD_eq_getElem?_getD, hs]
      rw [hrd] at h0 h1 h2 h3
      have h0 : wr.cell? (ad.add (k * 4)) = some (.string x.f0) := (hB.out.cell (World.block_lt_of_cell? w _ h0)).trans h0
      have h1 : wr.cell? ⟨(ad.add (k * 4)).block, (ad.add (k * 4)).off + 1, none⟩ = some (.int .i64 x.f1) := (hB.out.cell (World.block_lt_of_cell? w _ h1)).trans h1
      have h2 : wr.cell? ⟨(ad.add (k * 4)).block, (ad.add (k * 4)).off + 2, none⟩ = some (.int .i64 x.f2) := (hB.out.cell (World.block_lt_of_cell? w _ h2)).trans h2
      have h3 : wr.cell? ⟨(ad.add (k * 4)).block, (ad.add (k * 4)).off + 3, none⟩ = some (.int .i64 x.f3) := (hB.out.cell (World.block_lt_of_cell? w _ h3)).trans h3
      have HR := Lib.hid hs
      have HN := Lib.hid (HI.out.2.1 x (List.mem_of_getElem? hs))
      clear hrd hs
      have HW1 := Lib.hid (Blk.alloc_new wr [.string x.f0, .int .i64 x.f1, .int .i64 x.f2, .int .i64 x.f3] 55)
      have HX1 := Lib.hid (Blk.alloc hX.out (.cells #[.string x.f0, .int .i64 x.f1, .int .i64 x.f2, .int .i64 x.f3] 55))
      have HB1 := Lib.hid (hB.out.alloc hB.out.size (.cells #[.string x.f0, .int .i64 x.f1, .int .i64 x.f2, .int .i64 x.f3] 55))
      go_wp2_with fail
      refine (lexer_IsName.calls x.f0 (Px.isName x.f0.data.toList) _ (HI.out.1.1.below HB1.out) (by unfold lexer_IsName.f; exact if_pos HN.out)).mono ?_
      rintro e w2 ⟨rfl, hc⟩
      have HW2 := Lib.hid (Blk.below HW1.out hc (Blk.lt HW1.out))
      have HX2 := Lib.hid (Blk.below HX1.out hc (Blk.lt HX1.out))
      have HB2 := Lib.hid (below_next HB1.out (by first | exact Nat.le_refl _ | exact HB1.out.size) hc)
      clear hc
      have m0 : w2.cell? ⟨wr.heap.size, 0, none⟩ = some (.string x.f0) := HW2.out.cell 0 rfl
      have m1 : w2.cell? ⟨wr.heap.size, 1, none⟩ = some (.int .i64 x.f1) := HW2.out.cell 1 rfl
      have m2 : w2.cell? ⟨wr.heap.size, 2, none⟩ = some (.int .i64 x.f2) := HW2.out.cell 2 rfl
      have m3 : w2.cell? ⟨wr.heap.size, 3, none⟩ = some (.int .i64 x.f3) := HW2.out.cell 3 rfl
      have hval : inB x = (Px.isName x.f0.data.toList && !decide (x.f1 < 1) && !decide (13 < x.f1) && !decide (x.f2 < 1) && !decide (16 < x.f2) && !decide (x.f3 < 0) && !decide (64 < x.f3)) := rfl
      have HV := Lib.hid hval
      clear hval
      cases q0 : Px.isName x.f0.data.toList with
      | false =>
        go_wp2_with fail
        go_ret
        exact ⟨by rw [validB_no0 (all_fail HR.out (by rw [HV.out, q0]; simp))]; rfl, HB2.out⟩
      | true =>
      cases q1 : decide (x.f1 < 1) with
      | true =>
        go_wp2_with fail
        go_ret
        exact ⟨by rw [validB_no0 (all_fail HR.out (by rw [HV.out, q0, q1]; simp))]; rfl, HB2.out⟩
      | false =>
      cases q2 : decide (13 < x.f1) with
      | true =>
        go_wp2_with fail
        go_ret
        exact ⟨by rw [validB_no0 (all_fail HR.out (by rw [HV.out, q0, q1, q2]; simp))]; rfl, HB2.out⟩
      | false =>
      cases q3 : decide (x.f2 < 1) with
      | true =>
        go_wp2_with fail
        go_ret
        exact ⟨by rw [validB_no0 (all_fail HR.out (by rw [HV.out, q0, q1, q2, q3]; simp))]; rfl, HB2.out⟩
      | false =>
      cases q4 : decide (16 < x.f2) with
      | true =>
        go_wp2_with fail
        go_ret
        exact ⟨by rw [validB_no0 (all_fail HR.out (by rw [HV.out, q0, q1, q2, q3, q4]; simp))]; rfl, HB2.out⟩
      | false =>
      cases q5 : decide (x.f3 < 0) with
      | true =>
        go_wp2_with fail
        go_ret
        exact ⟨by rw [validB_no0 (all_fail HR.out (by rw [HV.out, q0, q1, q2, q3, q4, q5]; simp))]; rfl, HB2.out⟩
      | false =>
      cases q6 : decide (64 < x.f3) with
      | true =>
        go_wp2_with fail
        go_ret
        exact ⟨by rw [validB_no0 (all_fail HR.out (by rw [HV.out, q0, q1, q2, q3, q4, q5, q6]; simp))]; rfl, HB2.out⟩
      | false =>
      have HP := Lib.hid (show inB x = true by rw [HV.out, q0, q1, q2, q3, q4, q5, q6]; rfl)
      go_wp2_with fail
      go_roundw
      case rel => exact ⟨k + 1, by omega, by go_num, Lib.hid (all_step hA.out HR.out HP.out), HB2, HX2⟩
      case measure => simp [intOf]; omega
    · have x1 : wr.cell? ⟨w.heap.size, 1, none⟩ = some (.slice A1 l1.length c1) := hX.out.cell 1 rfl
      have HA0 := Lib.hid (show l0.all inB = true by have := hA.out; rwa [List.take_of_length_le (by omega)] at this)
      go_wp2
      clear x1
      go_loopw [52] (fun i wr2 => ∃ k2 : Nat, k2 ≤ l1.length ∧ i = .int .i64 k2 ∧ Hid ((l1.take k2).all arB = true) ∧ Hid (Below w.heap.size w wr2) ∧ Hid (Blk wr2 w.heap.size [.slice A0 l0.length c0, .slice A1 l1.length c1, .slice A2 l2.length c2] 26)) (fun i _ => l1.length - (intOf i).toNat)
      case atStart => exact ⟨0, by omega, rfl, by simp [Hid], hB, hX⟩
      case round =>
        obtain ⟨k, hk, rfl, hA, hB, hX⟩ := hrel
        by_cases hlt : k < l1.length
        ·
          obtain ⟨x, hs⟩ : ∃ x, l1[k]? = some x := ⟨_, List.getElem?_eq_getElem hlt⟩
          obtain ⟨ad, rfl, h0, h1⟩ := at_T58 HC.out.2.1 (k : Int) (by omega) (by omega)
          have hrd : rd_T58 l1 (k : Int) = x := by simp [rd_T58, List.getD_eq_getElem?_getD, hs]
          rw [hrd] at h0 h1
          have h0 : wr.cell? (ad.add (k * 2)) = some (.string x.f0) := (hB.out.cell (World.block_lt_of_cell? w _ h0)).trans h0
          have h1 : wr.cell? ⟨(ad.add (k * 2)).block, (ad.add (k * 2)).off + 1, none⟩ = some (.int .i64 x.f1) := (hB.out.cell (World.block_lt_of_cell? w _ h1)).trans h1
          have HR := Lib.hid hs
          have HN := Lib.hid (HI.out.2.2.1 x (List.mem_of_getElem? hs))
          clear hrd hs
          have HW1 := Lib.hid (Blk.alloc_new wr [.string x.f0, .int .i64 x.f1] 58)
          have HX1 := Lib.hid (Blk.alloc hX.out (.cells #[.string x.f0, .int .i64 x.f1] 58))
          have HB1 := Lib.hid (hB.out.alloc hB.out.size (.cells #[.string x.f0, .int .i64 x.f1] 58))
          go_wp2_with fail
          refine (lexer_IsName.calls x.f0 (Px.isName x.f0.data.toList) _ (HI.out.1.1.below HB1.out) (by unfold lexer_IsName.f; exact if_pos HN.out)).mono ?_
          rintro e w2 ⟨rfl, hc⟩
          have HW2 := Lib.hid (Blk.below HW1.out hc (Blk.lt HW1.out))
          have HX2 := Lib.hid (Blk.below HX1.out hc (Blk.lt HX1.out))
          have HB2 := Lib.hid (below_next HB1.out (by first | exact Nat.le_refl _ | exact HB1.out.size) hc)
          clear hc
          have m0 : w2.cell? ⟨wr.heap.size, 0, none⟩ = some (.string x.f0) := HW2.out.cell 0 rfl
          have m1 : w2.cell? ⟨wr.heap.size, 1, none⟩ = some (.int .i64 x.f1) := HW2.out.cell 1 rfl
          have hval : arB x = (Px.isName x.f0.data.toList && !decide (x.f1 < 1) && !decide (64 < x.f1)) := rfl
          have HV := Lib.hid hval
          clear hval
          cases q0 : Px.isName x.f0.data.toList with
          | false =>
            go_wp2_with fail
            go_ret
            exact ⟨by rw [validB_no1 (all_fail HR.out (by rw [HV.out, q0]; simp))]; rfl, HB2.out⟩
          | true =>
          cases q1 : decide (x.f1 < 1) with
          | true =>
            go_wp2_with fail
            go_ret
            exact ⟨by rw [validB_no1 (all_fail HR.out (by rw [HV.out, q0, q1]; simp))]; rfl, HB2.out⟩
          | false =>
          cases q2 : decide (64 < x.f1) with
          | true =>
            go_wp2_with fail
            go_ret
            exact ⟨by rw [validB_no1 (all_fail HR.out (by rw [HV.out, q0, q1, q2]; simp))]; rfl, HB2.out⟩
          | false =>
          have HP := Lib.hid (show arB x = true by rw [HV.out, q0, q1, q2]; rfl)
          go_wp2_with fail
          go_roundw
          case rel => exact ⟨k + 1, by omega, by go_num, Lib.hid (all_step hA.out HR.out HP.out), HB2, HX2⟩
          case measure => simp [intOf]; omega
        · have x0 : wr.cell? ⟨w.heap.size, 0, none⟩ = some (.slice A0 l0.length c0) := hX.out.cell 0 rfl
          have x1 : wr.cell? ⟨w.heap.size, 1, none⟩ = some (.slice A1 l1.length c1) := hX.out.cell 1 rfl
          have x2 : wr.cell? ⟨w.heap.size, 2, none⟩ = some (.slice A2 l2.length c2) := hX.out.cell 2 rfl
          have HA1 := Lib.hid (show l1.all arB = true by have := hA.out; rwa [List.take_of_length_le (by omega)] at this)
          go_wp2_with fail
          refine (body_calls 24 l2 HI.out.2.2.2 n2 1 rfl (by omega) A2 c2 _ (HI.out.1.1.below hB.out) (Kd.C_below HC.out.2.2 hB.out) hc2).mono ?_
          rintro e w5 ⟨rfl, hc⟩
          have HX5 := Lib.hid (Blk.below hX.out hc hX.out.lt)
          have HB5 := Lib.hid (below_next hB.out (Nat.le_refl _) hc)
          clear hc x0 x1 x2
          have x0 : w5.cell? ⟨w.heap.size, 0, none⟩ = some (.slice A0 l0.length c0) := HX5.out.cell 0 rfl
          have x1 : w5.cell? ⟨w.heap.size, 1, none⟩ = some (.slice A1 l1.length c1) := HX5.out.cell 1 rfl
          have x2 : w5.cell? ⟨w.heap.size, 2, none⟩ = some (.slice A2 l2.length c2) := HX5.out.cell 2 rfl
          cases hb : l2.all (stmtB 24) with
          | false =>
            go_wp2_with fail
            go_ret
            exact ⟨by unfold validB; rw [hb]; simp, HB5.out⟩
          | true =>
            have HZ5 := Lib.hid (HZ.out HA0.out HA1.out hb)
            have HV := Lib.hid (show validB l0 l1 l2 = decide ((fmtB l0 l1 l2).length ≤ 20000) by unfold validB; rw [HA0.out, HA1.out, hb]; rfl)
            go_wp2_with fail
            refine (format_calls A0 c0 l0 A1 c1 l1 A2 c2 l2 _ (HI.out.1.below HB5.out) (Kd.C_below HC.out.1 HB5.out) (Kd.C_below HC.out.2.1 HB5.out) (Kd.C_below HC.out.2.2 HB5.out) hc2 n0 n1 n2 (fun x hx => inB_ok (List.all_eq_true.1 HA0.out x hx)) (fun x hx => arB_ok (List.all_eq_true.1 HA1.out x hx)) HI.out.2.2.2 hb HZ5.out).mono ?_
            rintro e w6 ⟨rfl, hc⟩
            have HB6 := Lib.hid (below_next HB5.out (Nat.le_refl _) hc)
            clear hc x0 x1 x2
            have hsz : (⟨(fmtB l0 l1 l2).toArray⟩ : ByteArray).size = (fmtB l0 l1 l2).length := by show (fmtB l0 l1 l2).toArray.size = _; simp
            generalize (⟨(fmtB l0 l1 l2).toArray⟩ : ByteArray) = tx at hsz
            cases hq : decide ((tx.size : Int) ≤ 20000) with
            | true =>
              have HQ := Lib.hid (show validB l0 l1 l2 = true by rw [HV.out]; have := of_decide_eq_true hq; exact decide_eq_true (by omega))
              clear hsz
              go_wp2_with fail
              go_ret
              exact ⟨by rw [HQ.out]; rfl, HB6.out⟩
            | false =>
              have HQ := Lib.hid (show validB l0 l1 l2 = false by rw [HV.out]; have := of_decide_eq_false hq; exact decide_eq_false (by omega))
              clear hsz
              go_wp2_with fail
              go_ret
              exact ⟨by rw [HQ.out]; rfl, HB6.out⟩
end Go.Proofs.YtlhnfgnihakcfaaDoor.Ax
set_option linter.unusedSimpArgs false
set_option linter.unusedVariables false
namespace Go.Proofs.YtlhnfgnihakcfaaDoor.Ax
open Go.RowKit Hp Kn Lx
open Go.Proofs.YtlhnfgnihakcfaaDoorW.PrintWords Go.Proofs.YtlhnfgnihakcfaaDoorW.PrintLast Go.Proofs.YtlhnfgnihakcfaaDoorW.PrintMore
def alls (w : World) : List Obj → World
  | [] => w
  | o :: os => alls (w.alloc o) os
theorem alls_size : ∀ (os : List Obj) (w : World), (alls w os).heap.size = w.heap.size + os.length
  | [], w => rfl
  | o :: os, w => by unfold alls; rw [alls_size os]; simp; omega
theorem alls_below : ∀ (os : List Obj) (w : World) {B : Nat}, B ≤ w.heap.size → Below B w (alls w os)
  | [], w, B, h => Below.refl _ _
  | o :: os, w, B, h => ((Below.refl B w).alloc h o).trans (alls_below os (w.alloc o) (by simp; omega))
theorem alls_at : ∀ (os : List Obj) (w : World) (i : Nat) (o : Obj), os[i]? = some o → (alls w os).heap[w.heap.size + i]? = some o
  | [], w, i, o, h => by simp at h
  | o :: os, w, 0, o', h => by
    simp at h; subst h
    have := (alls_below os (w.alloc o) (B := w.heap.size + 1) (by simp)).block w.heap.size (by omega)
    exact this.trans (heap_alloc_new w o)
  | o :: os, w, i + 1, o', h => by
    have := alls_at os (w.alloc o) i o' (by simpa using h)
    rw [show w.heap.size + (i + 1) = (w.alloc o).heap.size + i by simp; omega]
    exact this
theorem C_one {α : Type} {d : Kd α} {w : World} {g : Nat} {cs : List Value} {t : TypeId} {x : α} (hb : Blk w g cs t) (hl : cs.length = d.sz) (hK : d.K w x cs) : d.C w (some ⟨g, 0, none⟩) 1 [x] := by
  refine ⟨rfl, by omega, fun _ => ⟨⟨g, 0, none⟩, rfl, fun j p hj => ?_⟩⟩
  cases j with
  | zero =>
    simp at hj; subst hj
    refine ⟨cs, hl, hK, fun i u hu => ?_⟩
    rw [Lib.add_plain]
    simpa using hb.cell i hu
  | succ j => simp at hj
theorem C_two {α : Type} {d : Kd α} {w : World} {g : Nat} {cs ds : List Value} {t : TypeId} {x y : α} (hb : Blk w g (cs ++ ds) t) (hl : cs.length = d.sz) (hm : ds.length = d.sz) (hK : d.K w x cs) (hL : d.K w y ds) : d.C w (some ⟨g, 0, none⟩) 2 [x, y] := by
  refine ⟨rfl, by omega, fun _ => ⟨⟨g, 0, none⟩, rfl, fun j p hj => ?_⟩⟩
  match j, hj with
  | 0, hj =>
    simp at hj; subst hj
    refine ⟨cs, hl, hK, fun i u hu => ?_⟩
    rw [Lib.add_plain]
    have hi := (List.getElem?_eq_some_iff.1 hu).1
    simpa using hb.cell i (by rw [List.getElem?_append_left hi]; exact hu)
  | 1, hj =>
    simp at hj; subst hj
    refine ⟨ds, hm, hL, fun i u hu => ?_⟩
    rw [Lib.add_plain]
    have := hb.cell (d.sz + i) (v := u) (by rw [List.getElem?_append_right (by omega), hl]; simpa using hu)
    simpa using this
  | j + 2, hj => simp at hj
def xE : S40 := ⟨2, 0, 0, ⟨#[120]⟩, []⟩
def oneE : S40 := ⟨1, 0, 1, ⟨#[]⟩, []⟩
def twoE : S40 := ⟨1, 0, 2, ⟨#[]⟩, []⟩
def sumE : S40 := ⟨4, 1, 0, ⟨#[]⟩, [xE, oneE]⟩
def mulE : S40 := ⟨4, 3, 0, ⟨#[]⟩, [sumE, twoE]⟩
def inX (z : Int) : S55 := ⟨⟨#[120]⟩, 1, 4, z⟩
def outS (e : S40) : S64 := ⟨5, ⟨#[]⟩, [e], [], []⟩
def exO (h : Nat) : List Obj :=
  [.cells #[.slice (some ⟨h + 8, 0, none⟩) 1 1, .slice none 0 0, .slice (some ⟨h + 10, 0, none⟩) 1 1] 26,
   .cells #[.int .i64 2, .int .i64 0, .int .u64 0, .string ⟨#[120]⟩, .slice none 0 0] 40,
   .cells #[.int .i64 1, .int .i64 0, .int .u64 1, .string ⟨#[]⟩, .slice none 0 0] 40,
   .cells #[.int .i64 1, .int .i64 0, .int .u64 2, .string ⟨#[]⟩, .slice none 0 0] 40,
   .cells #[.int .i64 2, .int .i64 0, .int .u64 0, .string ⟨#[120]⟩, .slice none 0 0, .int .i64 1, .int .i64 0, .int .u64 1, .string ⟨#[]⟩, .slice none 0 0] 40,
   .cells #[.int .i64 4, .int .i64 1, .int .u64 0, .string ⟨#[]⟩, .slice (some ⟨h + 4, 0, none⟩) 2 2] 40,
   .cells #[.int .i64 4, .int .i64 1, .int .u64 0, .string ⟨#[]⟩, .slice (some ⟨h + 4, 0, none⟩) 2 2, .int .i64 1, .int .i64 0, .int .u64 2, .string ⟨#[]⟩, .slice none 0 0] 40,
   .cells #[.int .i64 4, .int .i64 3, .int .u64 0, .string ⟨#[]⟩, .slice (some ⟨h + 6, 0, none⟩) 2 2] 40,
   .cells #[.string ⟨#[120]⟩, .int .i64 1, .int .i64 4, .int .i64 0] 55,
   .cells #[.int .i64 4, .int .i64 3, .int .u64 0, .string ⟨#[]⟩, .slice (some ⟨h + 6, 0, none⟩) 2 2] 40,
   .cells #[.int .i64 5, .string ⟨#[]⟩, .slice (some ⟨h + 9, 0, none⟩) 1 1, .slice none 0 0, .slice none 0 0] 64]
def exV0 (h : Nat) : Value := .agg #[.slice (some ⟨h + 8, 0, none⟩) 1 1, .slice none 0 0, .slice (some ⟨h + 10, 0, none⟩) 1 1]
set_option maxRecDepth 100000 in
set_option maxHeartbeats 4000000 in
theorem example_calls (w : World) :
    Calls Tryd.prog 27 #[] w fun e w' => e = .returned (exV0 w.heap.size) ∧ w' = alls w (exO w.heap.size) := by
  go_enter Tryd.func27, Tryd.ntmps27
  go_wp2
  refine bodyPost_ret (results_cell_row rfl _ _ w.heap.size 26 #[.slice (some ⟨w.heap.size + 8, 0, none⟩) 1 1, .slice none 0 0, .slice (some ⟨w.heap.size + 10, 0, none⟩) 1 1] (0, 0) _ rfl ?_ Tryd.underlying26 rfl (by kernel_rfl)) rfl ⟨rfl, rfl⟩
  exact alls_at (exO w.heap.size) w 0 _ rfl
structure ExAt (h : Nat) (z : Int) (W : World) : Prop where
  b4 : Blk W (h + 4) [.int .i64 2, .int .i64 0, .int .u64 0, .string ⟨#[120]⟩, .slice none 0 0, .int .i64 1, .int .i64 0, .int .u64 1, .string ⟨#[]⟩, .slice none 0 0] 40
  b6 : Blk W (h + 6) [.int .i64 4, .int .i64 1, .int .u64 0, .string ⟨#[]⟩, .slice (some ⟨h + 4, 0, none⟩) 2 2, .int .i64 1, .int .i64 0, .int .u64 2, .string ⟨#[]⟩, .slice none 0 0] 40
  b8 : Blk W (h + 8) [.string ⟨#[120]⟩, .int .i64 1, .int .i64 4, .int .i64 z] 55
  b9 : Blk W (h + 9) [.int .i64 4, .int .i64 3, .int .u64 0, .string ⟨#[]⟩, .slice (some ⟨h + 6, 0, none⟩) 2 2] 40
  b10 : Blk W (h + 10) [.int .i64 5, .string ⟨#[]⟩, .slice (some ⟨h + 9, 0, none⟩) 1 1, .slice none 0 0, .slice none 0 0] 64
theorem ExAt.new (w : World) : ExAt w.heap.size 0 (alls w (exO w.heap.size)) :=
  ⟨alls_at _ w 4 _ rfl, alls_at _ w 6 _ rfl, alls_at _ w 8 _ rfl, alls_at _ w 9 _ rfl, alls_at _ w 10 _ rfl⟩
theorem ExAt.below {h : Nat} {z : Int} {W W2 : World} (H : ExAt h z W) (hb : Below W.heap.size W W2) : ExAt h z W2 :=
  ⟨H.b4.below hb H.b4.lt, H.b6.below hb H.b6.lt, H.b8.below hb H.b8.lt, H.b9.below hb H.b9.lt, H.b10.below hb H.b10.lt⟩
theorem ExAt.other {h : Nat} {z : Int} {W : World} (H : ExAt h z W) {a : Addr} (ha : h + 10 < a.block ∨ a.block < h) (v : Value) : ExAt h z (W.setCell a v) :=
  ⟨H.b4.other (by omega) v, H.b6.other (by omega) v, H.b8.other (by omega) v, H.b9.other (by omega) v, H.b10.other (by omega) v⟩
theorem ExAt.size {h : Nat} {z : Int} {W : World} (H : ExAt h z W) (y : Int) : ExAt h y (W.setCell ⟨h + 8, 3, none⟩ (.int .i64 y)) :=
  ⟨H.b4.other (by simp) _, H.b6.other (by simp) _, H.b8.set 3 _, H.b9.other (by simp) _, H.b10.other (by simp) _⟩
theorem ExAt.ins {h : Nat} {z : Int} {W : World} (H : ExAt h z W) : Kd.C k55 W (some ⟨h + 8, 0, none⟩) 1 [inX z] := C_one H.b8 rfl (k55_mk W (inX z))
theorem ExAt.body {h : Nat} {z : Int} {W : World} (H : ExAt h z W) : Kd.C k64 W (some ⟨h + 10, 0, none⟩) 1 [outS mulE] := by
  have hx := k40_mk W xE (A4 := none) (c4 := 0) (by decide) (Kd.C_nil _ _)
  have h1 := k40_mk W oneE (A4 := none) (c4 := 0) (by decide) (Kd.C_nil _ _)
  have h2 := k40_mk W twoE (A4 := none) (c4 := 0) (by decide) (Kd.C_nil _ _)
  have hk1 : Kd.C k40 W (some ⟨h + 4, 0, none⟩) 2 [xE, oneE] := C_two (cs := [.int .i64 2, .int .i64 0, .int .u64 0, .string ⟨#[120]⟩, .slice none 0 0]) H.b4 rfl rfl hx h1
  have hs := k40_mk W sumE (A4 := some ⟨h + 4, 0, none⟩) (c4 := 2) (by decide) hk1
  have hk2 : Kd.C k40 W (some ⟨h + 6, 0, none⟩) 2 [sumE, twoE] := C_two (cs := [.int .i64 4, .int .i64 1, .int .u64 0, .string ⟨#[]⟩, .slice (some ⟨h + 4, 0, none⟩) 2 2]) H.b6 rfl rfl hs h2
  have hm := k40_mk W mulE (A4 := some ⟨h + 6, 0, none⟩) (c4 := 2) (by decide) hk2
  have hk3 : Kd.C k40 W (some ⟨h + 9, 0, none⟩) 1 [mulE] := C_one H.b9 rfl hm
  exact C_one H.b10 rfl (k64_mk W (outS mulE) (A2 := some ⟨h + 9, 0, none⟩) (c2 := 1) (by decide) hk3 (A3 := none) (c3 := 0) (by decide) (Kd.C_nil _ _) (A4 := none) (c4 := 0) (by decide) (Kd.C_nil _ _))
theorem ok_x : OkE xE := .mk (by decide) (by decide) (by decide) (by decide) (by intro y hy; cases hy)
theorem ok_one : OkE oneE := .mk (by decide) (by decide) (by decide) (by decide) (by intro y hy; cases hy)
theorem ok_two : OkE twoE := .mk (by decide) (by decide) (by decide) (by decide) (by intro y hy; cases hy)
theorem ok_sum : OkE sumE := .mk (by decide) (by decide) (by decide) (by decide) (by intro y hy; simp [sumE] at hy; rcases hy with rfl | rfl <;> first | exact ok_x | exact ok_one)
theorem ok_mul : OkE mulE := .mk (by decide) (by decide) (by decide) (by decide) (by intro y hy; simp [mulE] at hy; rcases hy with rfl | rfl <;> first | exact ok_sum | exact ok_two)
theorem ok_out {e : S40} (h : OkE e) : OkS (outS e) := .mk (by simp [outS, ByteArray.size]) (by simp [outS]) (by simp [outS]) (by simp [outS]) (by intro y hy; simp [outS] at hy; subst hy; exact h) (by intro y hy; cases hy) (by intro y hy; cases hy)
theorem dec_small {u : Nat} (h : u < 10) : dec u = ⟨#[UInt8.ofNat (48 + u)]⟩ := by unfold dec; rw [Lib.decDigits, dif_pos h]
def exText : ByteArray := ⟨#[105, 110, 32, 120, 32, 102, 114, 111, 109, 32, 49, 58, 32, 52, 59, 10, 111, 117, 116, 32, 40, 120, 32, 43, 32, 49, 41, 32, 42, 32, 50, 59, 10]⟩
theorem ex_fmt : fmtB [inX 0] [] [outS mulE] = exText.data.toList := by
  have e1 : fmtB [inX 0] [] [outS mulE] = lineT 0 [⟨#[105, 110, 32]⟩, ⟨#[120]⟩, ⟨#[]⟩, ⟨#[32, 102, 114, 111, 109, 32]⟩, dec 1, ⟨#[58, 32]⟩, dec 4, ⟨#[59]⟩] ++ lineT 0 [⟨#[111, 117, 116, 32]⟩, ⟨#[40]⟩ ++ (⟨#[120]⟩ ++ ⟨#[32]⟩ ++ ⟨#[43]⟩ ++ ⟨#[32]⟩ ++ dec 1) ++ ⟨#[41]⟩ ++ ⟨#[32]⟩ ++ ⟨#[42]⟩ ++ ⟨#[32]⟩ ++ dec 2, ⟨#[59]⟩] := by
    simp only [fmtB, List.flatMap_cons, List.flatMap_nil, List.append_nil]
    rfl
  rw [e1, dec_small (u := 1) (by omega), dec_small (u := 2) (by omega), dec_small (u := 4) (by omega)]
  rfl
theorem ex_stmtB : stmtB 24 (outS mulE) = true := by kernel_rfl
theorem ex_inB : inB (inX 0) = true := by kernel_rfl
theorem ex_inB65 : inB (inX 65) = false := by kernel_rfl
end Go.Proofs.YtlhnfgnihakcfaaDoor.Ax
