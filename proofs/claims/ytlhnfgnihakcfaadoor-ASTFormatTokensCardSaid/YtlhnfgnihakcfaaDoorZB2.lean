import Derived.Test.YtlhnfgnihakcfaaDoorZA8
import Derived.Test.YtlhnfgnihakcfaaDoorZA6
import Derived.Test.YtlhnfgnihakcfaaDoorZB1
set_option linter.unusedSimpArgs false
set_option linter.unusedVariables false
namespace Go.Proofs.YtlhnfgnihakcfaaDoor.Ax
open Go.RowKit Hp Kn Lx
open Go.Proofs.YtlhnfgnihakcfaaDoorW.PrintWords Go.Proofs.YtlhnfgnihakcfaaDoorW.PrintLast Go.Proofs.YtlhnfgnihakcfaaDoorW.PrintMore
theorem PC.below {W W2 : World} {g : Nat} {A0 : Option Addr} {c0 : Nat} {l0 : List S55} {A1 : Option Addr} {c1 : Nat} {l1 : List S58} {A2 : Option Addr} {c2 : Nat} {l2 : List S64} (h : PC g A0 c0 l0 A1 c1 l1 A2 c2 l2 W) (hb : Below W.heap.size W W2) : PC g A0 c0 l0 A1 c1 l1 A2 c2 l2 W2 := by
  obtain ⟨s0, s1, s2⟩ := h
  have k : ∀ (a : Addr) v, W.cell? a = some v → W2.cell? a = some v := fun a v h => (hb.cell (World.block_lt_of_cell? W _ h)).trans h
  exact ⟨k _ _ s0, k _ _ s1, k _ _ s2⟩
theorem ProgAt.below {W W2 : World} {v : Value} {A0 : Option Addr} {c0 : Nat} {l0 : List S55} {A1 : Option Addr} {c1 : Nat} {l1 : List S58} {A2 : Option Addr} {c2 : Nat} {l2 : List S64} (h : ProgAt W v A0 c0 l0 A1 c1 l1 A2 c2 l2) (hb : Below W.heap.size W W2) : ProgAt W2 v A0 c0 l0 A1 c1 l1 A2 c2 l2 :=
  ⟨h.v, Kd.C_below h.h0 hb, h.g0, h.o0, h.n0, Kd.C_below h.h1 hb, h.g1, h.o1, h.n1, Kd.C_below h.h2 hb, h.g2, h.o2, h.n2⟩
end Go.Proofs.YtlhnfgnihakcfaaDoor.Ax
set_option linter.unusedSimpArgs false
set_option linter.unusedVariables false
namespace Go.Proofs.YtlhnfgnihakcfaaDoor.Ax
open Go.RowKit Hp Kn Lx
open Go.Proofs.YtlhnfgnihakcfaaDoorW.PrintWords Go.Proofs.YtlhnfgnihakcfaaDoorW.PrintLast Go.Proofs.YtlhnfgnihakcfaaDoorW.PrintMore
theorem valid_parts {l0 : List S55} {l1 : List S58} {l2 : List S64} (h : validB l0 l1 l2 = true) : (∀ x ∈ l0, InOk x) ∧ (∀ x ∈ l1, ArOk x) ∧ l0.all inB = true ∧ l1.all arB = true ∧ l2.all (stmtB 24) = true ∧ (fmtB l0 l1 l2).length ≤ 20000 := by
  simp only [validB, Bool.and_eq_true, decide_eq_true_eq] at h
  exact ⟨fun x hx => inB_ok (List.all_eq_true.1 h.1.1.1 x hx), fun x hx => arB_ok (List.all_eq_true.1 h.1.1.2 x hx), h.1.1.1, h.1.1.2, h.1.2, h.2⟩
end Go.Proofs.YtlhnfgnihakcfaaDoor.Ax
