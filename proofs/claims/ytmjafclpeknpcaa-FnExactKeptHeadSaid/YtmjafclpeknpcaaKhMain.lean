/- The statement of laws.FnExactKeptHead: for every input the law returns true and its arguments read behind the call as before it. No condition. -/
import Derived.Test.YtmjafclpeknpcaaKhF
import Derived.WalkKit
import Derived.ProofKit
import Derived.OpenShut
import Derived.ChangeOld
import Derived.Below
namespace Go.Proofs.Ytmjafclpeknpcaa.fnExactKeptHead
open Go.ChangeShapes Go.WideShapes Go.ChangeAt Go.RowKit Go.Deep
set_option linter.unusedVariables false
set_option maxHeartbeats 2000000

theorem own : ownKnob Try.prog.godebug = none := by kernel_rfl
theorem laidOut : laidOutB Try.prog = true := by kernel_rfl

set_option maxRecDepth 100000 in
theorem lifted (os : Os) (started : os.Started) (H : Type) (enc : TypeId × Value → H) :
    ReturnsInHanded {} Try.checked os 6 .any (Rows.fnExactKeptHeadSpec.pre6 enc Try.prog Try.f6 Rows.fnExactKeptHeadRow.domain false) (Rows.fnExactKeptHeadSpec.post enc Try.prog Try.f6 false true false false) := by
  refine returnsInHanded_of_change (C := Try.checked) own started (by kernel_rfl) Try.func6
    (ChangeSpec.witness6 (enc := enc) (C := Try.checked) false ⟨#[], #[.agg #[.slice none 0 0, .slice none 0 0, .slice none 0 0, .slice none 0 0], .agg #[.int .i64 0, .int .i64 0, .int .i64 0, .slice none 0 0]], []⟩ 8 (by kernel_rfl) (by kernel_rfl) (by kernel_rfl) (by kernel_rfl)) ?_
  intro W base args ds gs before hval0 hW hcnd _
  have hval : ∀ (j : Nat) t v, Try.f6.params[j]? = some t → args[j]? = some v → Value.okWide Try.prog W .any base t v := hval0
  have hW' := hW
  obtain ⟨p, q, hA0, hV, rfl, hfz, hnd⟩ := hW
  have hA : DataW.TrodAll enc Try.prog W 0 (fun _ => true) true Try.f6.params.toList args.toList ds p := hA0
  rw [Try.params6] at hA hval
  obtain ⟨v0, vs0, d0, ds0, p0, q0, hargs, rfl, rfl, h0, r0⟩ := trodAll_cons hA
  obtain ⟨v1, vs1, d1, ds1, p1, q1, rfl, rfl, rfl, h1, r1⟩ := trodAll_cons r0
  obtain ⟨rfl, rfl, rfl⟩ := trodAll_nil r1
  obtain rfl : args = #[v0, v1] := by cases args; simp_all
  obtain ⟨rfl, rfl⟩ := trodVars_none hV
  have k0 := h0
  have lt0 : ∀ x ∈ p0, x.block < W.heap.size := by obtain ⟨m, hm⟩ := k0; exact DataW.trod_lt m _ _ _ hm
  obtain ⟨⟨cs0⟩, rfl, _⟩ := okWide_struct Try.underlying27 (hval 0 27 v0 rfl rfl)
  obtain ⟨fuel0, hf0⟩ := h0
  have fl0 := flat_open 5 27 _ _ [.slice 85, .slice 150, .slice 85, .slice 150] _ (by kernel_rfl) hf0
  simp only [Value.cells] at fl0
  obtain ⟨sv0, tl0, et0, sl0, f0⟩ := fl0.cons
  obtain ⟨sv1, tl1, et1, sl1, f1⟩ := f0.cons
  obtain ⟨sv2, tl2, et2, sl2, f2⟩ := f1.cons
  obtain ⟨sv3, tl3, et3, sl3, f3⟩ := f2.cons
  have ez0 := f3.nil
  subst ez0
  subst et3
  subst et2
  subst et1
  subst et0
  obtain ⟨a1, ak1, K1, rfl, r1⟩ := open_rowsv (tI := 2) (by kernel_rfl) (by kernel_rfl) (by kernel_rfl) (by kernel_rfl) sl0
  obtain ⟨a2, ak2, W1, rfl, r2⟩ := open_writesv (tI := 2) (by kernel_rfl) (by kernel_rfl) (by kernel_rfl) (by kernel_rfl) sl1
  obtain ⟨a3, ak3, K2, rfl, r3⟩ := open_rowsv (tI := 2) (by kernel_rfl) (by kernel_rfl) (by kernel_rfl) (by kernel_rfl) sl2
  obtain ⟨a4, ak4, W2, rfl, r4⟩ := open_writesv (tI := 2) (by kernel_rfl) (by kernel_rfl) (by kernel_rfl) (by kernel_rfl) sl3
  have k1 := h1
  have lt1 : ∀ x ∈ p1, x.block < W.heap.size := by obtain ⟨m, hm⟩ := k1; exact DataW.trod_lt m _ _ _ hm
  obtain ⟨⟨cs1⟩, rfl, _⟩ := okWide_struct Try.underlying50 (hval 1 50 v1 rfl rfl)
  obtain ⟨fuel1, hf1⟩ := h1
  have fl1 := flat_open 5 50 _ _ [.int, .int, .int, .slice 130] _ (by kernel_rfl) hf1
  simp only [Value.cells] at fl1
  obtain ⟨_, tl0, et0, ⟨num, rfl, oknum⟩, f0⟩ := fl1.cons
  obtain ⟨_, tl1, et1, ⟨base, rfl, okbase⟩, f1⟩ := f0.cons
  obtain ⟨_, tl2, et2, ⟨time, rfl, oktime⟩, f2⟩ := f1.cons
  obtain ⟨sv1, tl1, etl1, sl1, fz1⟩ := f2.cons
  have ez1 := fz1.nil
  subst ez1
  subst etl1
  subst et2
  subst et1
  subst et0
  obtain ⟨ao, cap, l, rfl, hl1⟩ := open_marks (by kernel_rfl) (by kernel_rfl) sl1
  clear hA0 hval0
  refine (c_law_KeptHead a1 a2 a3 a4 ak1 ak2 ak3 ak4 (K1, W1) (K2, W2) num base time ao cap l W ⟨r1, r2⟩ ⟨r3, r4⟩ hl1).mono fun e W' ⟨he, bel⟩ => ?_
  subst he
  exact ⟨_, rfl, _, _, _, [], _, [], hW', trodAll_mk1 (shut_bool Try.underlying4 _), (trodAll_cons_mk (Below.trod laidOut (by kernel_rfl) (of_decide_eq_true (by kernel_rfl)) k0 bel lt0) (trodAll_cons_mk (Below.trod laidOut (by kernel_rfl) (of_decide_eq_true (by kernel_rfl)) k1 bel lt1) trodAll_mk0)), rfl, bel.frame _, fun h => by cases h⟩

theorem lifts' : (Rows.fnExactKeptHeadRow.lifted == Try.pinned.checked.prog.liftsFinal) = true := fact_lifts
theorem make' : (Try.pinned.checked.prog.make == some Rows.fnExactKeptHeadRow.make) = true := fact_make
theorem closed : joinedFacts Try.pinned.checked.prog 6 Try.f6 Rows.fnExactKeptHeadSpec Rows.fnExactKeptHeadRow = true := by
  unfold joinedFacts
  repeat' with_reducible refine (Bool.and_eq_true_iff).mpr ⟨?_, ?_⟩
  all_goals first | with_reducible exact fact_enter | with_reducible exact lifts' | with_reducible exact make' | as_aux_lemma => kernel_rfl
theorem over : Rows.fnExactKeptHeadRow.holds Try.pinned (OpenSpec.ofChange Rows.fnExactKeptHeadSpec) :=
  OpenClaim.holds_of_wide 6 Try.f6 rfl rfl rfl rfl rfl rfl rfl ⟨rfl, rfl, rfl, rfl, rfl⟩ rfl rfl rfl rfl rfl (by kernel_rfl) Try.func6 closed
    (of_decide_eq_true (by kernel_rfl)) (by unfold Func.isWrapper; first | (rw [if_pos (by decide +kernel)]; kernel_rfl) | (rw [if_neg (by decide +kernel)]; exact ⟨rfl, rfl⟩))
    (fun os started H enc _ => lifted os started H enc)

theorem proved : Rows.FnExactKeptHeadSaid := over
#print axioms proved
end Go.Proofs.Ytmjafclpeknpcaa.fnExactKeptHead
