/- The statement of laws.FnExactJobsOk2: for every input the law returns true and its arguments read behind the call as before it. No condition. -/
import Derived.Test.YtbnmbgfpbagndaaJobsLaw
import Derived.WalkKit
import Derived.ProofKit
import Derived.OpenShut
import Derived.ChangeOld
import Derived.Below
namespace Go.Proofs.Ytbnmbgfpbagndaa.fnExactJobsOk2
open Go.ChangeShapes Go.WideShapes Go.ChangeAt Go.RowKit Go.Deep
set_option linter.unusedVariables false

theorem own : ownKnob Try.prog.godebug = none := by kernel_rfl
theorem laidOut : laidOutB Try.prog = true := by kernel_rfl

set_option maxRecDepth 100000 in
theorem lifted (os : Os) (started : os.Started) (H : Type) (enc : TypeId × Value → H) :
    ReturnsInHanded {} Try.checked os 10 .any (Rows.fnExactJobsOk2Spec.pre6 enc Try.prog Try.f10 Rows.fnExactJobsOk2Row.domain false) (Rows.fnExactJobsOk2Spec.post enc Try.prog Try.f10 false true false false) := by
  refine returnsInHanded_of_change (C := Try.checked) own started (by kernel_rfl) Try.func10
    (ChangeSpec.witness6 (enc := enc) (C := Try.checked) false ⟨#[], #[.agg #[.int .i64 0, .int .i64 0, .int .i64 0, .int .i64 0, .int .i64 0, .slice none 0 0]], []⟩ 8 (by kernel_rfl) (by kernel_rfl) (by kernel_rfl) (by kernel_rfl)) ?_
  intro W base args ds gs before hval0 hW hcnd _
  have hval : ∀ (j : Nat) t v, Try.f10.params[j]? = some t → args[j]? = some v → Value.okWide Try.prog W .any base t v := hval0
  have hW' := hW
  obtain ⟨p, q, hA0, hV, rfl, hfz, hnd⟩ := hW
  have hA : DataW.TrodAll enc Try.prog W 0 (fun _ => true) true Try.f10.params.toList args.toList ds p := hA0
  rw [Try.params10] at hA hval
  obtain ⟨v0, vs0, d0, ds0, p0, q0, hargs, rfl, rfl, h0, r0⟩ := trodAll_cons hA
  obtain ⟨rfl, rfl, rfl⟩ := trodAll_nil r0
  obtain rfl : args = #[v0] := by cases args; simp_all
  obtain ⟨rfl, rfl⟩ := trodVars_none hV
  have k0 := h0
  have lt0 : ∀ x ∈ p0, x.block < W.heap.size := by obtain ⟨m, hm⟩ := k0; exact DataW.trod_lt m _ _ _ hm
  obtain ⟨⟨cs0⟩, rfl, _⟩ := okWide_struct Try.underlying72 (hval 0 72 v0 rfl rfl)
  obtain ⟨fuel0, hf0⟩ := h0
  have fl0 := flat_open 5 72 _ _ [.int, .int, .int, .int, .int, .slice 97] _ (by kernel_rfl) hf0
  simp only [Value.cells] at fl0
  obtain ⟨_, _, ea0, ⟨i, rfl, _⟩, fa0⟩ := fl0.cons
  obtain ⟨_, _, eb0, ⟨t, rfl, _⟩, fb0⟩ := fa0.cons
  obtain ⟨_, _, ec0, ⟨h, rfl, _⟩, fc0⟩ := fb0.cons
  obtain ⟨_, _, ed0, ⟨e, rfl, _⟩, fd0⟩ := fc0.cons
  obtain ⟨_, _, ee0, ⟨u, rfl, _⟩, fe0⟩ := fd0.cons
  obtain ⟨_, _, ef0, sl0, ff0⟩ := fe0.cons
  have eg0 := ff0.nil
  subst eg0; subst ef0; subst ee0; subst ed0; subst ec0; subst eb0; subst ea0
  obtain ⟨ao, cap, l, rfl, hl0⟩ := open_dues (by kernel_rfl) (by kernel_rfl) sl0
  clear hA0 hval0
  refine (c_law_JobsOk2 i t h e u ao cap l W hl0).mono fun e W' ⟨he, bel⟩ => ?_
  subst he
  exact ⟨_, rfl, _, _, _, [], _, [], hW', trodAll_mk1 (shut_bool Try.underlying4 _), (trodAll_cons_mk (Below.trod laidOut (by kernel_rfl) (of_decide_eq_true (by kernel_rfl)) k0 bel lt0) trodAll_mk0), rfl, bel.frame _, fun h => by cases h⟩

theorem over : Rows.fnExactJobsOk2Row.holds Try.pinned (OpenSpec.ofChange Rows.fnExactJobsOk2Spec) :=
  OpenClaim.holds_of_wide 10 Try.f10 rfl rfl rfl rfl rfl rfl rfl ⟨rfl, rfl, rfl, rfl, rfl⟩ rfl rfl rfl rfl rfl (by kernel_rfl) Try.func10 (by kernel_rfl)
    (of_decide_eq_true (by kernel_rfl)) (by unfold Func.isWrapper; first | (rw [if_pos (by decide +kernel)]; kernel_rfl) | (rw [if_neg (by decide +kernel)]; exact ⟨rfl, rfl⟩))
    (fun os started H enc _ => lifted os started H enc)

theorem proved : Rows.FnExactJobsOk2Said := over
#print axioms proved
end Go.Proofs.Ytbnmbgfpbagndaa.fnExactJobsOk2
