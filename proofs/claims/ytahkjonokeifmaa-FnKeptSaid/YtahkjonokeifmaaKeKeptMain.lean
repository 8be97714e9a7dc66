/- The statement of laws.FnKept: for every input the law returns true and its arguments read behind the call as before it. No condition. -/
import Derived.Test.YtahkjonokeifmaaKeF9A
import Derived.Test.YtahkjonokeifmaaKeVL
import Derived.Test.YtahkjonokeifmaaKeFacts
import Derived.WalkKit
import Derived.ProofKit
import Derived.OpenShut
import Derived.ChangeOld
import Derived.Below
namespace Go.Proofs.Ytahkjonokeifmaa.fnKept
open Go.ChangeShapes Go.WideShapes Go.ChangeAt Go.RowKit Go.Deep
set_option linter.unusedVariables false
set_option maxHeartbeats 2000000
theorem own : ownKnob Try.prog.godebug = none := by kernel_rfl
theorem laidOut : laidOutB Try.prog = true := by kernel_rfl
set_option maxRecDepth 100000 in
theorem lifted (os : Os) (started : os.Started) (H : Type) (enc : TypeId × Value → H) :
  ReturnsInHanded {} Try.checked os 3 .any (Rows.fnKeptSpec.pre6 enc Try.prog Try.f3 Rows.fnKeptRow.domain false) (Rows.fnKeptSpec.post enc Try.prog Try.f3 false true false false) := by
 refine returnsInHanded_of_change (C := Try.checked) own started kr Try.func3
  (ChangeSpec.witness6 (enc := enc) (C := Try.checked) false ⟨#[], #[.slice none 0 0], []⟩ 8 kr kr kr kr) ?_
 intro W base args ds gs before hval0 hW hcnd _
 have hval : ∀ (j : Nat) t v, Try.f3.params[j]? = some t → args[j]? = some v → Value.okWide Try.prog W .any base t v := hval0
 have hW' := hW
 obtain ⟨p, q, hA0, hV, rfl, hfz, hnd⟩ := hW
 have hA : DataW.TrodAll enc Try.prog W 0 (fun _ => true) true Try.f3.params.toList args.toList ds p := hA0
 rw [Try.params3] at hA hval
 obtain ⟨v0, vs0, d0, ds0, p0, q0, hargs, rfl, rfl, h0, r0⟩ := trodAll_cons hA
 obtain ⟨rfl, rfl, rfl⟩ := trodAll_nil r0
 obtain rfl : args = #[v0] := by cases args; simp_all
 obtain ⟨rfl, rfl⟩ := trodVars_none hV
 have k0 := h0
 have lt0 : ∀ x ∈ p0, x.block < W.heap.size := by obtain ⟨m, hm⟩ := k0; exact DataW.trod_lt m _ _ _ hm
 obtain ⟨a0, len0, cap0, rfl⟩ := okWide_slice Try.underlying22 (hval 0 22 v0 rfl rfl)
 obtain ⟨l, hl, hr0⟩ := open_bytesX Try.underlying22 Try.underlying5 kr h0
 clear hA0 hval0
 refine ((L_Kept l hl).law W [.slice a0 len0 cap0] ⟨⟨hr0, trivial⟩, trivial⟩).mono fun e W' ⟨he, bel⟩ => ?_
 subst he
 exact ⟨_, rfl, _, _, _, [], _, [], hW', trodAll_mk1 (shut_bool Try.underlying4 _), (trodAll_cons_mk (Below.trod laidOut kr (of_decide_eq_true kr) k0 bel lt0) trodAll_mk0), rfl, bel.frame _, fun h => by cases h⟩
theorem lifts' : (Rows.fnKeptRow.lifted == Try.pinned.checked.prog.liftsFinal) = true := fact_lifts
theorem make' : (Try.pinned.checked.prog.make == some Rows.fnKeptRow.make) = true := fact_make
theorem closed : joinedFacts Try.pinned.checked.prog 3 Try.f3 Rows.fnKeptSpec Rows.fnKeptRow = true := by
 unfold joinedFacts
 repeat' with_reducible refine (Bool.and_eq_true_iff).mpr ⟨?_, ?_⟩
 all_goals first | with_reducible exact fact_enter | with_reducible exact lifts' | with_reducible exact make' | as_aux_lemma => kernel_rfl
theorem over : Rows.fnKeptRow.holds Try.pinned (OpenSpec.ofChange Rows.fnKeptSpec) :=
 OpenClaim.holds_of_wide 3 Try.f3 rfl rfl rfl rfl rfl rfl rfl ⟨rfl, rfl, rfl, rfl, rfl⟩ rfl rfl rfl rfl rfl kr Try.func3 closed
  (of_decide_eq_true kr) (by unfold Func.isWrapper; first | (rw [if_pos (by decide +kernel)]; kernel_rfl) | (rw [if_neg (by decide +kernel)]; exact ⟨rfl, rfl⟩))
  (fun os started H enc _ => lifted os started H enc)
theorem proved : Rows.FnKeptSaid := over
#print axioms proved
end Go.Proofs.Ytahkjonokeifmaa.fnKept
