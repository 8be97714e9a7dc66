/- The statement of laws.FnRecoveredAgain: for every input the law returns true and its arguments read behind the call as before it. No condition. -/
import Derived.Test.YtahkjonokeifmaaGreatRaF9B
import Derived.Test.YtahkjonokeifmaaGreatRaVL
import Derived.Test.YtahkjonokeifmaaGreatRaFacts
import Derived.WalkKit
import Derived.ProofKit
import Derived.OpenShut
import Derived.ChangeOld
import Derived.Below
namespace Go.Proofs.YtahkjonokeifmaaGreat.fnRecoveredAgain
open Go.ChangeShapes Go.WideShapes Go.ChangeAt Go.RowKit Go.Deep
set_option linter.unusedVariables false
set_option maxHeartbeats 2000000
theorem own : ownKnob Tryz.prog.godebug = none := by kernel_rfl
theorem laidOut : laidOutB Tryz.prog = true := by kernel_rfl
set_option maxRecDepth 100000 in
theorem lifted (os : Os) (started : os.Started) (H : Type) (enc : TypeId × Value → H) :
  ReturnsInHanded {} Tryz.checked os 3 .any (Rows.fnRecoveredAgainSpec.pre6 enc Tryz.prog Tryz.f3 Rows.fnRecoveredAgainRow.domain false) (Rows.fnRecoveredAgainSpec.post enc Tryz.prog Tryz.f3 false true false false) := by
 refine returnsInHanded_of_change (C := Tryz.checked) own started kr Tryz.func3
  (ChangeSpec.witness6 (enc := enc) (C := Tryz.checked) false ⟨#[], #[.slice none 0 0], []⟩ 8 kr kr kr kr) ?_
 intro W base args ds gs before hval0 hW hcnd _
 have hval : ∀ (j : Nat) t v, Tryz.f3.params[j]? = some t → args[j]? = some v → Value.okWide Tryz.prog W .any base t v := hval0
 have hW' := hW
 obtain ⟨p, q, hA0, hV, rfl, hfz, hnd⟩ := hW
 have hA : DataW.TrodAll enc Tryz.prog W 0 (fun _ => true) true Tryz.f3.params.toList args.toList ds p := hA0
 rw [Tryz.params3] at hA hval
 obtain ⟨v0, vs0, d0, ds0, p0, q0, hargs, rfl, rfl, h0, r0⟩ := trodAll_cons hA
 obtain ⟨rfl, rfl, rfl⟩ := trodAll_nil r0
 obtain rfl : args = #[v0] := by cases args; simp_all
 obtain ⟨rfl, rfl⟩ := trodVars_none hV
 have k0 := h0
 have lt0 : ∀ x ∈ p0, x.block < W.heap.size := by obtain ⟨m, hm⟩ := k0; exact DataW.trod_lt m _ _ _ hm
 obtain ⟨a0, len0, cap0, rfl⟩ := okWide_slice Tryz.underlying22 (hval 0 22 v0 rfl rfl)
 obtain ⟨l, hl, hr0⟩ := open_bytesX Tryz.underlying22 Tryz.underlying5 kr h0
 clear hA0 hval0
 refine ((L_RecoveredAgain l hl).law W [.slice a0 len0 cap0] ⟨⟨hr0, trivial⟩, trivial⟩).mono fun e W' ⟨he, bel⟩ => ?_
 subst he
 exact ⟨_, rfl, _, _, _, [], _, [], hW', trodAll_mk1 (shut_bool Tryz.underlying4 _), (trodAll_cons_mk (Below.trod laidOut kr (of_decide_eq_true kr) k0 bel lt0) trodAll_mk0), rfl, bel.frame _, fun h => by cases h⟩
theorem lifts' : (Rows.fnRecoveredAgainRow.lifted == Tryz.pinned.checked.prog.liftsFinal) = true := fact_lifts
theorem make' : (Tryz.pinned.checked.prog.make == some Rows.fnRecoveredAgainRow.make) = true := fact_make
theorem closed : joinedFacts Tryz.pinned.checked.prog 3 Tryz.f3 Rows.fnRecoveredAgainSpec Rows.fnRecoveredAgainRow = true := by
 unfold joinedFacts
 repeat' with_reducible refine (Bool.and_eq_true_iff).mpr ⟨?_, ?_⟩
 all_goals first | with_reducible exact fact_enter | with_reducible exact lifts' | with_reducible exact make' | as_aux_lemma => kernel_rfl
theorem over : Rows.fnRecoveredAgainRow.holds Tryz.pinned (OpenSpec.ofChange Rows.fnRecoveredAgainSpec) :=
 OpenClaim.holds_of_wide 3 Tryz.f3 rfl rfl rfl rfl rfl rfl rfl ⟨rfl, rfl, rfl, rfl, rfl⟩ rfl rfl rfl rfl rfl kr Tryz.func3 closed
  (of_decide_eq_true kr) (by unfold Func.isWrapper; first | (rw [if_pos (by decide +kernel)]; kernel_rfl) | (rw [if_neg (by decide +kernel)]; exact ⟨rfl, rfl⟩))
  (fun os started H enc _ => lifted os started H enc)
theorem proved : Rows.FnRecoveredAgainSaid := over
#print axioms proved
end Go.Proofs.YtahkjonokeifmaaGreat.fnRecoveredAgain
