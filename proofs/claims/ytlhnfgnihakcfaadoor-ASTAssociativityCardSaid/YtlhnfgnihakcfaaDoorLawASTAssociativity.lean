/- privitylaw27.ASTAssociativity: at every input the law answers true and leaves its arguments as they were. Condition: when the call begins the six listed package variables read as their initialisers lay them; the card ties that to the program's text. -/
import Derived.Test.YtlhnfgnihakcfaaDoorAxLaid
import Derived.Test.YtlhnfgnihakcfaaDoorAxAssoc
import Derived.Test.YtlhnfgnihakcfaaDoorTie
import Derived.Test.YtlhnfgnihakcfaaDoorCards
import Derived.WalkKit
import Derived.ProofKit
import Derived.OpenShut
import Derived.ShutString
import Derived.ChangeOld
import Derived.Below
import Derived.SizedLaws
import Derived.Stop.Joined
import Derived.SevenTiedAt
namespace Go.Proofs.YtlhnfgnihakcfaaDoor.aSTAssociativity
open Go.ChangeShapes Go.WideShapes Go.ChangeAt Go.RowKit
set_option linter.unusedVariables false
set_option maxRecDepth 100000
theorem own : ownKnob Tryd.prog.godebug = none := by kernel_rfl
theorem lifted (os : Os) (started : os.Started) (H : Type) (enc : TypeId × Value → H) :
    ReturnsInHanded {} Tryd.checked os 8 .any (fun w args => (Rows.aSTAssociativitySpec.pre enc Tryd.prog Tryd.f8 Rows.aSTAssociativityRow.domain false w args ∧ laidMetH Tryd.prog Ax.laidA w) ∧ sizedMet enc Tryd.prog Tryd.f8 (OpenSpec.ofChange Rows.aSTAssociativitySpec) false w args) (Rows.aSTAssociativitySpec.post enc Tryd.prog Tryd.f8 false true false false) := by
  refine returnsInHanded_of_change_and (C := Tryd.checked) (X := fun w _ => laidMetH Tryd.prog Ax.laidA w) (fun _ _ _ hh h => h.of_heap hh) own started (by kernel_rfl) Tryd.func8
    (ChangeSpec.witness_shaped (enc := enc) (C := Tryd.checked) (os := os) (X := fun w _ => laidMetH Tryd.prog Ax.laidA w) false (World.doorLaid Tryd.prog 144 os) #[.int .u8 0, .int .u8 0, .int .u8 0] 8 rfl (World.shaped_of_RefB (by kernel_rfl) (by kernel_rfl)) (by kernel_rfl) (by kernel_rfl) (by kernel_rfl) (Ax.door_metA os _)) ?_
  intro W base args ds gs before hval0 hW hcnd hsz0 hL _
  have hval : ∀ (j : Nat) t v, Tryd.f8.params[j]? = some t → args[j]? = some v → Value.okWide Tryd.prog W .any base t v := hval0
  have hW' := hW
  obtain ⟨p, q, hA0, hV, rfl, hfz, hnd⟩ := hW
  have hA : DataW.TrodAll enc Tryd.prog W 0 (fun _ => true) true Tryd.f8.params.toList args.toList ds p := hA0
  rw [Tryd.params8] at hA hval
  obtain ⟨v0, vs0, d0, ds0, p0, q0, hargs, rfl, rfl, h0, r0⟩ := trodAll_cons hA
  obtain ⟨v1, vs1, d1, ds1, p1, q1, rfl, rfl, rfl, h1, r1⟩ := trodAll_cons r0
  obtain ⟨v2, vs2, d2, ds2, p2, q2, rfl, rfl, rfl, h2, r2⟩ := trodAll_cons r1
  obtain ⟨rfl, rfl, rfl⟩ := trodAll_nil r2
  obtain rfl : args = #[v0, v1, v2] := by cases args; simp_all
  obtain ⟨rfl, rfl⟩ := trodVars_none hV
  obtain ⟨a0, rfl, rfl, rfl, y0⟩ := open_int Tryd.underlying5 (hval 0 5 v0 rfl rfl) h0
  obtain ⟨a1, rfl, rfl, rfl, y1⟩ := open_int Tryd.underlying5 (hval 1 5 v1 rfl rfl) h1
  obtain ⟨a2, rfl, rfl, rfl, y2⟩ := open_int Tryd.underlying5 (hval 2 5 v2 rfl rfl) h2
  have z0 : 0 ≤ a0 ∧ a0 < 256 := by
    have h : IntKind.min .u8 ≤ a0 ∧ a0 ≤ IntKind.max .u8 := by simpa only [Lit.wf, Bool.and_eq_true, decide_eq_true_eq] using y0
    have e0 : IntKind.min .u8 = 0 := by decide
    have e1 : IntKind.max .u8 = 255 := by decide
    rw [e0, e1] at h
    omega
  have z1 : 0 ≤ a1 ∧ a1 < 256 := by
    have h : IntKind.min .u8 ≤ a1 ∧ a1 ≤ IntKind.max .u8 := by simpa only [Lit.wf, Bool.and_eq_true, decide_eq_true_eq] using y1
    have e0 : IntKind.min .u8 = 0 := by decide
    have e1 : IntKind.max .u8 = 255 := by decide
    rw [e0, e1] at h
    omega
  have z2 : 0 ≤ a2 ∧ a2 < 256 := by
    have h : IntKind.min .u8 ≤ a2 ∧ a2 ≤ IntKind.max .u8 := by simpa only [Lit.wf, Bool.and_eq_true, decide_eq_true_eq] using y2
    have e0 : IntKind.min .u8 = 0 := by decide
    have e1 : IntKind.max .u8 = 255 := by decide
    rw [e0, e1] at h
    omega
  clear hA0 hval0 hsz0
  refine (Ax.assoc_calls a0 a1 a2 z0.1 z0.2 z1.1 z1.2 z2.1 z2.2 W (Ax.gx_of_laid hL)).mono fun e W' ⟨he, bel⟩ => ?_
  subst he
  exact ⟨_, rfl, _, _, _, [], _, [], hW', trodAll_mk1 (shut_bool Tryd.underlying4 _), (trodAll_cons_mk (shut_int Tryd.underlying5 y0) (trodAll_cons_mk (shut_int Tryd.underlying5 y1) (trodAll_cons_mk (shut_int Tryd.underlying5 y2) trodAll_mk0))), rfl, bel.frame _, fun h => by cases h⟩
set_option maxHeartbeats 8000000 in
theorem closed : joinedFacts Tryd.prog 8 Tryd.f8 Rows.aSTAssociativitySpec Rows.aSTAssociativityRow = true := by
  unfold joinedFacts
  simp only [Bool.and_eq_true]
  repeat' refine And.intro ?_ ?_
  all_goals as_aux_lemma => kernel_rfl
theorem over : Rows.aSTAssociativityRow.holds Tryd.pinned (OpenSpec.ofChange Rows.aSTAssociativitySpec) :=
  OpenClaim.holds_of_wide 8 Tryd.f8 rfl rfl rfl rfl rfl rfl rfl ⟨rfl, rfl, rfl, rfl, rfl⟩ rfl rfl rfl rfl rfl (by kernel_rfl) Tryd.func8 closed
    (of_decide_eq_true (by kernel_rfl)) (by unfold Func.isWrapper; first | (rw [if_pos (by decide +kernel)]; kernel_rfl) | (rw [if_neg (by decide +kernel)]; exact ⟨rfl, rfl⟩))
    (fun os started H enc _ => lifted os started H enc)
theorem row : Rows.ASTAssociativitySaid := over
end Go.Proofs.YtlhnfgnihakcfaaDoor.aSTAssociativity
namespace Go.Proofs.YtlhnfgnihakcfaaDoor
open aSTAssociativity
set_option maxRecDepth 100000
set_option maxHeartbeats 8000000 in
/-- The tied card. -/
theorem aSTAssociativity_card : Rows.ASTAssociativityCardSaid :=
  Claim7.holds_tied_plain_at .later [] [.data, .data, .data, .widerDeep, .data, .data] true (true, "a8d3779693101ac098a807932006f1fe1475bf0b50b7a4e5c5c84798ab049803") false
    over (fun _ h => by cases h) (by as_aux_lemma => kernel_rfl) (fun _ h => by cases h) aSTAssociativity_row_tie rfl ⟨rfl, rfl⟩ (by as_aux_lemma => kernel_rfl) rfl
    (fun f fn hf hfn => by
      obtain rfl : f = 8 := Option.some.inj ((show Tryd.prog.funcNamed "privity/privitylaw27.ASTAssociativity" = some 8 by kernel_rfl).symm.trans hf) |>.symm
      obtain rfl : fn = Tryd.f8 := (Option.some.inj (Tryd.func8.symm.trans hfn)).symm
      exact ⟨by as_aux_lemma => kernel_rfl, fun j t ht => by
          rw [Tryd.params8] at ht
          rcases j with _ | j
          · obtain rfl : t = 5 := by simpa using ht.symm
            exact (show Tryd.prog.wantsStandIn 5 = false by kernel_rfl)
          rcases j with _ | j
          · obtain rfl : t = 5 := by simpa using ht.symm
            exact (show Tryd.prog.wantsStandIn 5 = false by kernel_rfl)
          rcases j with _ | j
          · obtain rfl : t = 5 := by simpa using ht.symm
            exact (show Tryd.prog.wantsStandIn 5 = false by kernel_rfl)
          simp at ht⟩)
    (by as_aux_lemma => kernel_rfl)
#print axioms aSTAssociativity_card
end Go.Proofs.YtlhnfgnihakcfaaDoor
