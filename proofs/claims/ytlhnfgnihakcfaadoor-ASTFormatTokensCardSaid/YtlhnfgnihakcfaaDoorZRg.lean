import Derived.Test.YtlhnfgnihakcfaaDoorZWAll
import Derived.WalkKit
set_option linter.unusedVariables false
namespace Go.Proofs.YtlhnfgnihakcfaaDoor.Rg
open Go.Proofs.YtlhnfgnihakcfaaDoorW.PrintLast
inductive Step where
  | any (i : Nat)
  | take (i : Nat)
  | one (i : Nat)
  | two (i j : Nat)
theorem pq (l : List Value) (d : List Deferred) (n : Tmp) (v : Value) : Act.put ⟨l.toArray, d⟩ (some n) v = ⟨(l.set n v).toArray, d⟩ := by simp [Act.put]
theorem pz {α : Type} {a b : α} {l : List α} : (a :: l).set 0 b = b :: l := rfl
theorem ps {α : Type} {a b : α} {l : List α} {n : Nat} : (a :: l).set (n + 1) b = a :: l.set n b := rfl
section
variable {P : Program} {ops : Array Oper} {Q : Exit → Act → World → Prop} {S : World → Prop}
def chk (ops : Array Oper) : Array Bool → List Step → Bool
  | l, [] => Region.ready .any ops l == []
  | l, .any i :: r => anyB .any ops l (l.setIfInBounds i true) i && chk ops (l.setIfInBounds i true) r
  | l, .take i :: r => takeB .any ops [] l (l.setIfInBounds i true) i && chk ops (l.setIfInBounds i true) r
  | l, .one i :: r => readyB .any ops l (l.setIfInBounds i true) i && chk ops (l.setIfInBounds i true) r
  | l, .two i j :: r => (Region.ready .any ops l == [i, j]) && readyB .any ops (l.setIfInBounds i true) ((l.setIfInBounds i true).setIfInBounds j true) j && readyB .any ops (l.setIfInBounds j true) ((l.setIfInBounds j true).setIfInBounds i true) i && i != j && chk ops ((l.setIfInBounds i true).setIfInBounds j true) r
def cost : List Step → Nat
  | [] => 0
  | .two _ _ :: r => cost r + 2
  | _ :: r => cost r + 1
def One (P : Program) (ops : Array Oper) (Q : Exit → Act → World → Prop) (S : World → Prop) (i : Nat) (next : Act → World → Prop) (a : Act) (w : World) : Prop :=
  ∃ oi, ops[i]? = some oi ∧ ∀ K : Act → World → Prop, Shut (∀ a' w', S w' → (S w' → next a' w') → K a' w') → if Region.wanted oi (yielded ops a.tmps) = true then Oper.wp P oi a w K Q else K (a.put oi.dst undef) w
def Steps (P : Program) (ops : Array Oper) (Q : Exit → Act → World → Prop) (S : World → Prop) : List Step → Act → World → Prop
  | [], a, w => Q .normal a w
  | .any i :: r, a, w => ∃ oi v, ops[i]? = some oi ∧ (∀ c a w, Q (.panic c) (a.put oi.dst v) w → Q (.panic c) a w) ∧ Yields P ops oi v a ∧ Steps P ops Q S r (a.put oi.dst v) w
  | .take i :: r, a, w => ∃ oi v, ops[i]? = some oi ∧ (∀ c a w, Q (.panic c) (a.put oi.dst v) w → Q (.panic c) a w) ∧ YieldsIf P ops S oi v a ∧ S w ∧ Steps P ops Q S r (a.put oi.dst v) w
  | .one i :: r, a, w => One P ops Q S i (Steps P ops Q S r) a w
  | .two i j :: r, a, w => One P ops Q S i (One P ops Q S j (Steps P ops Q S r)) a w ∧ One P ops Q S j (One P ops Q S i (Steps P ops Q S r)) a w
theorem one_last {i n : Nat} {l l' : Array Bool} {a : Act} {w : World} {next : Act → World → Prop} (hc : readyB .any ops l l' i = true) (h : One P ops Q S i next a w) (hn : ∀ a' w', next a' w' → wpAnyLast P .any ops Q S [] n l' a' w') :
    wpAnyLast P .any ops Q S [] (n + 1) l a w := by
  obtain ⟨oi, hi, h⟩ := h
  exact one_ (N := oi.dst) _ hi rfl hc (by simp) (fun K hK => h K (fun a' w' hS hk => hK a' w' hS (fun hS' => hn _ _ (hk hS'))))
theorem last_of_steps : ∀ (r : List Step) (l : Array Bool) (a : Act) (w : World), chk ops l r = true → Steps P ops Q S r a w → wpAnyLast P .any ops Q S [] (cost r) l a w
  | [], l, a, w, hc, h => done_ hc h
  | .any i :: r, l, a, w, hc, ⟨oi, v, hi, hQ, hy, h⟩ => by
    simp only [chk, Bool.and_eq_true] at hc
    exact pure_ (N := oi.dst) _ hi rfl hc.1 hQ hy rfl (last_of_steps r _ _ _ hc.2 h)
  | .take i :: r, l, a, w, hc, ⟨oi, v, hi, hQ, hy, hS, h⟩ => by
    simp only [chk, Bool.and_eq_true] at hc
    exact take_ (N := oi.dst) _ hi rfl hc.1 hQ hy hS rfl (last_of_steps r _ _ _ hc.2 h)
  | .one i :: r, l, a, w, hc, h => by
    simp only [chk, Bool.and_eq_true] at hc
    exact one_last hc.1 h (fun a' w' hn => last_of_steps r _ _ _ hc.2 hn)
  | .two i j :: r, l, a, w, hc, h => by
    simp only [chk, Bool.and_eq_true, beq_iff_eq, bne_iff_ne] at hc
    obtain ⟨⟨⟨⟨h1, h2⟩, h3⟩, hne⟩, h4⟩ := hc
    have hcomm : (l.setIfInBounds j true).setIfInBounds i true = (l.setIfInBounds i true).setIfInBounds j true := Array.setIfInBounds_comm _ _ (Ne.symm hne)
    rw [hcomm] at h3
    obtain ⟨⟨oi, hoi, ha⟩, ⟨oj, hoj, hb⟩⟩ := h
    refine wpAnyLast_ready h1 (by simp) (AllReadyL.cons hoi (by simp) (fun K hK => ha K (fun a' w' hS hk => hK a' w' hS (fun hS' => ?_))) (AllReadyL.cons hoj (by simp) (fun K hK => hb K (fun a' w' hS hk => hK a' w' hS (fun hS' => ?_))) AllReadyL.nil))
    · exact one_last h2 (hk hS') (fun a' w' hn => last_of_steps r _ _ _ h4 hn)
    · exact one_last h3 (hk hS') (fun a' w' hn => last_of_steps r _ _ _ h4 hn)
theorem region_steps {id : Nat} {a : Act} {w : World} (r : List Step) (hm : P.follows .mixedOrders = true) (hn : (ops.size == cost r && chk ops (Array.replicate ops.size false) r) = true)
    (hS : S w.drew) (h : Steps P ops Q S r a w.drew) : (Code.region id ops true).wp P Q a w := by
  simp only [Bool.and_eq_true, beq_iff_eq] at hn
  exact start_ (ds := []) (Array.replicate ops.size false) hm hn.1 (by rw [hn.1]) hS (fun _ => last_of_steps r _ _ _ hn.2 h)
theorem s_any {i : Nat} {oi : Oper} {N : Option Tmp} {v : Value} {r : List Step} {a a' : Act} {w : World} (hi : ops[i]? = some oi) (hN : oi.dst = N) (hQ : ∀ c a w, Q (.panic c) (a.put oi.dst v) w → Q (.panic c) a w)
    (hw : Region.wanted oi (yielded ops a.tmps) = true) (hy : ∀ w, (execOp a.eval oi).run P w = .ok (.value v) w) (ha : a.put N v = a') (h : Steps P ops Q S r a' w) : Steps P ops Q S (.any i :: r) a w := by
  subst hN; subst ha; exact ⟨oi, v, hi, hQ, .inl ⟨hw, hy⟩, h⟩
theorem s_off {i : Nat} {oi : Oper} {N : Option Tmp} {r : List Step} {a a' : Act} {w : World} (hi : ops[i]? = some oi) (hN : oi.dst = N) (hQ : ∀ c a w, Q (.panic c) (a.put oi.dst undef) w → Q (.panic c) a w)
    (hw : Region.wanted oi (yielded ops a.tmps) = false) (ha : a.put N undef = a') (h : Steps P ops Q S r a' w) : Steps P ops Q S (.any i :: r) a w := by
  subst hN; subst ha; exact ⟨oi, undef, hi, hQ, .inr ⟨hw, rfl⟩, h⟩
theorem p (n : Tmp) (v : Value) (a' : Act) {i : Nat} {oi : Oper} {r : List Step} {a : Act} {w : World} (hi : ops[i]? = some oi) (hN : oi.dst = some n) (hQ : ∀ c a w, Q (.panic c) (a.put oi.dst v) w → Q (.panic c) a w)
    (hw : Region.wanted oi (yielded ops a.tmps) = true) (hy : ∀ w, (execOp a.eval oi).run P w = .ok (.value v) w) (ha : a.put (some n) v = a') (h : Steps P ops Q S r a' w) : Steps P ops Q S (.any i :: r) a w := s_any hi hN hQ hw hy ha h
theorem s_take {i : Nat} {oi : Oper} {N : Option Tmp} {v : Value} {r : List Step} {a a' : Act} {w : World} (hi : ops[i]? = some oi) (hN : oi.dst = N) (hQ : ∀ c a w, Q (.panic c) (a.put oi.dst v) w → Q (.panic c) a w)
    (hS : S w) (hw : Region.wanted oi (yielded ops a.tmps) = true) (hy : ∀ w, S w → (execOp a.eval oi).run P w = .ok (.value v) w) (ha : a.put N v = a') (h : Steps P ops Q S r a' w) : Steps P ops Q S (.take i :: r) a w := by
  subst hN; subst ha; exact ⟨oi, v, hi, hQ, .inl ⟨hw, hy⟩, hS, h⟩
theorem s_takeOff {i : Nat} {oi : Oper} {N : Option Tmp} {r : List Step} {a a' : Act} {w : World} (hi : ops[i]? = some oi) (hN : oi.dst = N) (hQ : ∀ c a w, Q (.panic c) (a.put oi.dst undef) w → Q (.panic c) a w)
    (hS : S w) (hw : Region.wanted oi (yielded ops a.tmps) = false) (ha : a.put N undef = a') (h : Steps P ops Q S r a' w) : Steps P ops Q S (.take i :: r) a w := by
  subst hN; subst ha; exact ⟨oi, undef, hi, hQ, .inr ⟨hw, rfl⟩, hS, h⟩
theorem t (n : Tmp) (v : Value) (a' : Act) {i : Nat} {oi : Oper} {r : List Step} {a : Act} {w : World} (hi : ops[i]? = some oi) (hN : oi.dst = some n) (hQ : ∀ c a w, Q (.panic c) (a.put oi.dst v) w → Q (.panic c) a w)
    (hS : S w) (hw : Region.wanted oi (yielded ops a.tmps) = true) (hy : ∀ w, S w → (execOp a.eval oi).run P w = .ok (.value v) w) (ha : a.put (some n) v = a') (h : Steps P ops Q S r a' w) : Steps P ops Q S (.take i :: r) a w := s_take hi hN hQ hS hw hy ha h
theorem s_value {i : Nat} {oi : Oper} {N : Option Tmp} {v : Value} {r : List Step} {a a' : Act} {w w1 : World} (hi : ops[i]? = some oi) (hN : oi.dst = N)
    (hw : Region.wanted oi (yielded ops a.tmps) = true) (hrun : (execOp a.eval oi).run P w = .ok (.value v) w1) (hS : S w1) (ha : a.put N v = a') (h : Steps P ops Q S r a' w1) : Steps P ops Q S (.one i :: r) a w := by
  subst hN; subst ha
  exact ⟨oi, hi, fun K hK => value_ hw rfl hrun (hK _ _ hS (fun _ => h))⟩
theorem s_call {i : Nat} {oi : Oper} {N : Option Tmp} {r : List Step} {a : Act} {w : World} {f : FuncId} {fn : Func} {as : Array Operand} {ts : Array TypeId} (hi : ops[i]? = some oi) (hN : oi.dst = N)
    (hf : P.funcs[f]? = some fn) (hname : (fn.name == "runtime.NumGoroutine") = false) (hb : fn.body.isSome = true) (args : Array Value)
    (hw : Region.wanted oi (yielded ops a.tmps) = true) (hop : oi.op = .call { callee := .value (.func f), args := as, argTypes := ts }) (hargs : as.map a.eval = args)
    (h : Calls P f args w fun e w' => match e with
      | .returned v => S w' ∧ Steps P ops Q S r (a.put N v) w'
      | .panicked c => Q (.panic c) a w'
      | .outgrown => LetsOut Q) : Steps P ops Q S (.one i :: r) a w := by
  subst hN
  refine ⟨oi, hi, fun K hK => ?_⟩
  rw [if_pos hw]
  have he := enters_ hf hname hb args w
  have hrun : (execOp a.eval oi).run P w = .ok (.enter f args) w := by
    unfold execOp
    simp [hop, resolve, Deferred.ofValue, invoke, Act.eval, hargs, he]
  unfold Oper.wp
  rw [hrun, Oper.upon_enter]
  refine h.mono fun e w'' hh => ?_
  cases e with
  | returned v => exact hK _ _ hh.1 (fun _ => hh.2)
  | panicked c => exact hh
  | outgrown => exact hh
theorem s_norm {r : List Step} {a a' : Act} {w : World} (ha : a = a') (h : Steps P ops Q S r a' w) : Steps P ops Q S r a w := by subst ha; exact h
theorem s_done {a : Act} {w : World} (h : Q .normal a w) : Steps P ops Q S [] a w := h
end
end Go.Proofs.YtlhnfgnihakcfaaDoor.Rg
