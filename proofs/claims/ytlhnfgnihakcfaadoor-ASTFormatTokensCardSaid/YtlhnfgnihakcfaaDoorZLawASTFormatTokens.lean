/- privitylaw27.ASTFormatTokens: at every input the law answers true and leaves its arguments as they were. Condition: when the call begins the six listed package variables read as their initialisers lay them; the card ties that to the program's text. -/
import Derived.Test.YtlhnfgnihakcfaaDoorZB4
import Derived.Test.YtlhnfgnihakcfaaDoorZAxLawTok
import Derived.Test.YtlhnfgnihakcfaaDoorTie
import Derived.Test.YtlhnfgnihakcfaaDoorCards
import Derived.Carry
import Derived.WalkKit
import Derived.ProofKit
import Derived.OpenShut
import Derived.ShutString
import Derived.ChangeOld
import Derived.Below
import Derived.SizedLaws
import Derived.Stop.Joined
import Derived.SevenTiedAt
namespace Go.Proofs.YtlhnfgnihakcfaaDoor.aSTFormatTokens
open Go.ChangeShapes Go.WideShapes Go.ChangeAt Go.RowKit
set_option linter.unusedVariables false
set_option maxRecDepth 100000
theorem own : ownKnob Tryd.prog.godebug = none := by kernel_rfl
theorem lifted (os : Os) (started : os.Started) (H : Type) (enc : TypeId × Value → H) :
    ReturnsInHanded {} Tryd.checked os 9 .any (fun w args => (Rows.aSTFormatTokensSpec.pre enc Tryd.prog Tryd.f9 Rows.aSTFormatTokensRow.domain false w args ∧ laidMetH Tryd.prog Ax.laidA w) ∧ sizedMet enc Tryd.prog Tryd.f9 (OpenSpec.ofChange Rows.aSTFormatTokensSpec) false w args) (Rows.aSTFormatTokensSpec.post enc Tryd.prog Tryd.f9 false true false false) := by
  refine returnsInHanded_of_change_and (C := Tryd.checked) (X := fun w _ => laidMetH Tryd.prog Ax.laidA w) (fun _ _ _ hh h => h.of_heap hh) own started (by kernel_rfl) Tryd.func9
    (ChangeSpec.witness_shaped (enc := enc) (C := Tryd.checked) (os := os) (X := fun w _ => laidMetH Tryd.prog Ax.laidA w) false (World.doorLaid Tryd.prog 144 os) #[.agg #[.slice none 0 0, .slice none 0 0, .slice none 0 0]] 8 rfl (World.shaped_of_RefB (by kernel_rfl) (by kernel_rfl)) (by kernel_rfl) (by kernel_rfl) (by kernel_rfl) (Ax.door_metA os _)) ?_
  intro W base args ds gs before hval0 hW hcnd hsz0 hL _
  have hval : ∀ (j : Nat) t v, Tryd.f9.params[j]? = some t → args[j]? = some v → Value.okWide Tryd.prog W .any base t v := hval0
  have hW' := hW
  obtain ⟨p, q, hA0, hV, rfl, hfz, hnd⟩ := hW
  have hA : DataW.TrodAll enc Tryd.prog W 0 (fun _ => true) true Tryd.f9.params.toList args.toList ds p := hA0
  rw [Tryd.params9] at hA hval hsz0
  obtain ⟨v0, vs0, d0, ds0, p0, q0, hargs, rfl, rfl, h0, r0⟩ := trodAll_cons hA
  obtain ⟨rfl, rfl, rfl⟩ := trodAll_nil r0
  obtain rfl : args = #[v0] := by cases args; simp_all
  obtain ⟨rfl, rfl⟩ := trodVars_none hV
  have z0 := Ax.weights_head (t := 26) (d := d0) (show (DataW.weightsEach Tryd.prog (26 :: _) (d0 :: _)).all _ = true from hsz0)
  obtain ⟨A00, c00, l00, A01, c01, l01, A02, c02, l02, P0⟩ := Ax.open_P h0 z0.1
  clear hA0 hval0 hsz0
  refine (Ax.asttok_calls W (Ax.gx_of_laid hL) P0).mono fun e W' ⟨he, bel⟩ => ?_
  subst he
  exact ⟨_, rfl, _, _, _, [], _, [], hW', trodAll_mk1 (shut_bool Tryd.underlying4 _), (trodAll_cons_mk (Below.trod (by kernel_rfl) (by kernel_rfl) (of_decide_eq_true (by kernel_rfl)) h0 bel (fun x hx => hW'.lt x (by simp [hx]))) trodAll_mk0), rfl, bel.frame _, fun h => by cases h⟩
set_option maxHeartbeats 8000000 in
theorem closed : joinedFacts Tryd.prog 9 Tryd.f9 Rows.aSTFormatTokensSpec Rows.aSTFormatTokensRow = true := by
  unfold joinedFacts
  simp only [Bool.and_eq_true]
  repeat' refine And.intro ?_ ?_
  all_goals as_aux_lemma => kernel_rfl
theorem over : Rows.aSTFormatTokensRow.holds Tryd.pinned (OpenSpec.ofChange Rows.aSTFormatTokensSpec) :=
  OpenClaim.holds_of_wide 9 Tryd.f9 rfl rfl rfl rfl rfl rfl rfl ⟨rfl, rfl, rfl, rfl, rfl⟩ rfl rfl rfl rfl rfl (by kernel_rfl) Tryd.func9 closed
    (of_decide_eq_true (by kernel_rfl)) (by unfold Func.isWrapper; first | (rw [if_pos (by decide +kernel)]; kernel_rfl) | (rw [if_neg (by decide +kernel)]; exact ⟨rfl, rfl⟩))
    (fun os started H enc _ => lifted os started H enc)
theorem row : Rows.ASTFormatTokensSaid := over
end Go.Proofs.YtlhnfgnihakcfaaDoor.aSTFormatTokens
namespace Go.Proofs.YtlhnfgnihakcfaaDoor
open aSTFormatTokens
set_option maxRecDepth 100000
set_option maxHeartbeats 8000000 in
theorem aSTFormatTokens_card : Rows.ASTFormatTokensCardSaid :=
  Claim7.holds_tied_plain_at .later [] [.data, .data, .data, .widerDeep, .data, .data] true (true, "a8d3779693101ac098a807932006f1fe1475bf0b50b7a4e5c5c84798ab049803") false
    over (fun _ h => by cases h) (by as_aux_lemma => kernel_rfl) (fun _ h => by cases h) aSTFormatTokens_row_tie rfl ⟨rfl, rfl⟩ (by as_aux_lemma => kernel_rfl) rfl
    (fun f fn hf hfn => by
      obtain rfl : f = 9 := Option.some.inj ((show Tryd.prog.funcNamed "privity/privitylaw27.ASTFormatTokens" = some 9 by kernel_rfl).symm.trans hf) |>.symm
      obtain rfl : fn = Tryd.f9 := (Option.some.inj (Tryd.func9.symm.trans hfn)).symm
      exact ⟨by as_aux_lemma => kernel_rfl, fun j t ht => by
          rw [Tryd.params9] at ht
          rcases j with _ | j
          · obtain rfl : t = 26 := by simpa using ht.symm
            exact (show Tryd.prog.wantsStandIn 26 = false by kernel_rfl)
          simp at ht⟩)
    (by as_aux_lemma => kernel_rfl)
#print axioms aSTFormatTokens_card
end Go.Proofs.YtlhnfgnihakcfaaDoor
