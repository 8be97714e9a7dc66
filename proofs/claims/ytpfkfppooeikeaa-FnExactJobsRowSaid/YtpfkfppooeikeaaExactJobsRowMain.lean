/- The statement of laws.FnExactJobsRow: for every input the law returns true and its arguments read behind the call as before it. No condition. -/
import Derived.Test.YtpfkfppooeikeaaJobsRowLaw
import Derived.Test.YtpfkfppooeikeaaFacts
import Derived.WalkKit
import Derived.ProofKit
import Derived.OpenShut
import Derived.ChangeOld
import Derived.Below
namespace Go.Proofs.Ytpfkfppooeikeaa.fnExactJobsRow
open Go.ChangeShapes Go.WideShapes Go.ChangeAt Go.RowKit Go.Deep
set_option linter.unusedVariables false
set_option maxHeartbeats 2000000

theorem own : ownKnob Try.prog.godebug = none := by kernel_rfl
theorem laidOut : laidOutB Try.prog = true := by kernel_rfl

set_option maxRecDepth 100000 in
theorem lifted (os : Os) (started : os.Started) (H : Type) (enc : TypeId × Value → H) :
    ReturnsInHanded {} Try.checked os 19 .any (Rows.fnExactJobsRowSpec.pre6 enc Try.prog Try.f19 Rows.fnExactJobsRowRow.domain false) (Rows.fnExactJobsRowSpec.post enc Try.prog Try.f19 false true false false) := by
  refine returnsInHanded_of_change (C := Try.checked) own started (by kernel_rfl) Try.func19
    (ChangeSpec.witness6 (enc := enc) (C := Try.checked) false ⟨#[], #[.agg #[.int .i64 0, .int .i64 0, .int .i64 0, .int .i64 0, .int .i64 0, .slice none 0 0]], []⟩ 8 (by kernel_rfl) (by kernel_rfl) (by kernel_rfl) (by kernel_rfl)) ?_
  intro W base args ds gs before hval0 hW hcnd _
  have hval : ∀ (j : Nat) t v, Try.f19.params[j]? = some t → args[j]? = some v → Value.okWide Try.prog W .any base t v := hval0
  have hW' := hW
  obtain ⟨p, q, hA0, hV, rfl, hfz, hnd⟩ := hW
  have hA : DataW.TrodAll enc Try.prog W 0 (fun _ => true) true Try.f19.params.toList args.toList ds p := hA0
  rw [Try.params19] at hA hval
  obtain ⟨v0, vs0, d0, ds0, p0, q0, hargs, rfl, rfl, h0, r0⟩ := trodAll_cons hA
  obtain ⟨rfl, rfl, rfl⟩ := trodAll_nil r0
  obtain rfl : args = #[v0] := by cases args; simp_all
  obtain ⟨rfl, rfl⟩ := trodVars_none hV
  have k0 := h0
  have lt0 : ∀ x ∈ p0, x.block < W.heap.size := by obtain ⟨m, hm⟩ := k0; exact DataW.trod_lt m _ _ _ hm
  obtain ⟨⟨cs0⟩, rfl, _⟩ := okWide_struct Try.underlying94 (hval 0 94 v0 rfl rfl)
  obtain ⟨fuel0, hf0⟩ := h0
  have fl0 := flat_open 5 94 _ _ [.int, .int, .int, .int, .int, .slice 191] _ (by kernel_rfl) hf0
  simp only [Value.cells] at fl0
  obtain ⟨_, tl0, et0, ⟨ji, rfl, okji⟩, f0⟩ := fl0.cons
  obtain ⟨_, tl1, et1, ⟨jt, rfl, okjt⟩, f1⟩ := f0.cons
  obtain ⟨_, tl2, et2, ⟨jh, rfl, okjh⟩, f2⟩ := f1.cons
  obtain ⟨_, tl3, et3, ⟨je, rfl, okje⟩, f3⟩ := f2.cons
  obtain ⟨_, tl4, et4, ⟨ju, rfl, okju⟩, f4⟩ := f3.cons
  obtain ⟨sv0, tl0, etl0, sl0, fz0⟩ := f4.cons
  have ez0 := fz0.nil
  subst ez0
  subst etl0
  subst et4
  subst et3
  subst et2
  subst et1
  subst et0
  obtain ⟨ao, cap, l, rfl, hl0⟩ := open_dues (by kernel_rfl) (by kernel_rfl) sl0
  clear hA0 hval0
  refine (c_law_JobsRow ji jt jh je ju ao cap l W okji okjt okjh okje okju hl0).mono fun e W' ⟨he, bel⟩ => ?_
  subst he
  exact ⟨_, rfl, _, _, _, [], _, [], hW', trodAll_mk1 (shut_bool Try.underlying4 _), (trodAll_cons_mk (Below.trod laidOut (by kernel_rfl) (of_decide_eq_true (by kernel_rfl)) k0 bel lt0) trodAll_mk0), rfl, bel.frame _, fun h => by cases h⟩

theorem lifts' : (Rows.fnExactJobsRowRow.lifted == Try.pinned.checked.prog.liftsFinal) = true := fact_lifts
theorem make' : (Try.pinned.checked.prog.make == some Rows.fnExactJobsRowRow.make) = true := fact_make
theorem closed : joinedFacts Try.pinned.checked.prog 19 Try.f19 Rows.fnExactJobsRowSpec Rows.fnExactJobsRowRow = true := by
  unfold joinedFacts
  repeat' with_reducible refine (Bool.and_eq_true_iff).mpr ⟨?_, ?_⟩
  all_goals first | with_reducible exact fact_enter | with_reducible exact lifts' | with_reducible exact make' | as_aux_lemma => kernel_rfl
theorem over : Rows.fnExactJobsRowRow.holds Try.pinned (OpenSpec.ofChange Rows.fnExactJobsRowSpec) :=
  OpenClaim.holds_of_wide 19 Try.f19 rfl rfl rfl rfl rfl rfl rfl ⟨rfl, rfl, rfl, rfl, rfl⟩ rfl rfl rfl rfl rfl (by kernel_rfl) Try.func19 closed
    (of_decide_eq_true (by kernel_rfl)) (by unfold Func.isWrapper; first | (rw [if_pos (by decide +kernel)]; kernel_rfl) | (rw [if_neg (by decide +kernel)]; exact ⟨rfl, rfl⟩))
    (fun os started H enc _ => lifted os started H enc)

theorem proved : Rows.FnExactJobsRowSaid := over
#print axioms proved
end Go.Proofs.Ytpfkfppooeikeaa.fnExactJobsRow
