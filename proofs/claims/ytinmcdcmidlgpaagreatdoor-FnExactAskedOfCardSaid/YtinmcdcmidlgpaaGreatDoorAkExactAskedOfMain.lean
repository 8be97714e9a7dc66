/- The statement of laws.FnExactAskedOf: for every input the law returns true and its arguments read behind the call as before it. No condition. -/
import Derived.Test.YtinmcdcmidlgpaaGreatDoorAkF85
import Derived.Test.YtinmcdcmidlgpaaGreatDoorAkFQ
import Derived.Test.YtinmcdcmidlgpaaGreatDoorAkVL
import Derived.Test.YtinmcdcmidlgpaaGreatDoorAkFacts
import Derived.WalkKit
import Derived.ProofKit
import Derived.OpenShut
import Derived.ChangeOld
import Derived.Below
import Derived.OpenVars
import Derived.LaidMore
import Derived.LaidLaws
import Derived.Stop.Joined
import Derived.SevenTiedAt
import Derived.Test.YtinmcdcmidlgpaaGreatDoorCards
import Derived.Test.YtinmcdcmidlgpaaGreatDoorTie
namespace Go.Proofs.YtinmcdcmidlgpaaGreatDoor.fnExactAskedOf
open Go.ChangeShapes Go.WideShapes Go.ChangeAt Go.RowKit Go.Deep
set_option linter.unusedVariables false
set_option maxHeartbeats 2000000
theorem own : ownKnob Tryz.prog.godebug = none := by kernel_rfl
theorem laidOut : laidOutB Tryz.prog = true := by kernel_rfl
abbrev laidL : List (String × DataW Unit) := [("errors.errorType", Rows.laid_errors_errorType), ("loop.example/g00851/impl.errFull", Rows.laid_loop_example_g00851_impl_errFull)]
set_option maxRecDepth 100000 in
theorem door_met (os : Os) (args : Array Value) : laidMetH Tryz.prog laidL ((World.doorLaid Tryz.prog 400 os).forCall (fun _ _ => 0) ⟨#[], args, []⟩).memory :=
 laidMetH_of_parts3 (fuel := 8) (laidMet_of_run' 8 kr kr) kr kr
set_option maxRecDepth 100000 in
theorem lifted (os : Os) (started : os.Started) (H : Type) (enc : TypeId × Value → H) :
  ReturnsInHanded {} Tryz.checked os 3 .any (fun w args => (Rows.fnExactAskedOfSpec.pre enc Tryz.prog Tryz.f3 [] false w args ∧ laidMetH Tryz.prog laidL w) ∧ sizedMet enc Tryz.prog Tryz.f3 (OpenSpec.ofChange Rows.fnExactAskedOfSpec) false w args)
   (Rows.fnExactAskedOfSpec.post enc Tryz.prog Tryz.f3 false true false false) := by
 refine returnsInHanded_of_change_and (C := Tryz.checked) (X := fun w _ => laidMetH Tryz.prog laidL w) (fun _ _ _ hh h => h.of_heap hh) own started kr Tryz.func3
  (ChangeSpec.witness_shaped (enc := enc) (C := Tryz.checked) (os := os) (X := fun w _ => laidMetH Tryz.prog laidL w) false (World.doorLaid Tryz.prog 400 os) #[.agg #[.slice none 0 0, .slice none 0 0, .slice none 0 0, .slice none 0 0, .int .i64 0, .int .i64 0, .int .i64 0, .slice none 0 0, .int .i64 0, .int .i64 0, .int .i64 0, .slice none 0 0, .bool false, .int .i64 0, .int .i64 0, .slice none 0 0, .slice none 0 0, .int .i64 0, .slice none 0 0], .agg #[.int .i64 0, .int .i64 0, .int .i64 0, .int .i64 0, .int .i64 0, .int .i64 0, .int .i64 0], .int .i64 0] 8 rfl (World.shaped_of_RefB kr kr) kr kr kr (door_met os _)) ?_
 intro W base args ds gs before hval0 hW _ _ hL _
 have hval : ∀ (j : Nat) t v, Tryz.f3.params[j]? = some t → args[j]? = some v → Value.okWide Tryz.prog W .any base t v := hval0
 have hW' := hW
 obtain ⟨p, q, hA0, hV, rfl, hfz, hnd⟩ := hW
 have hA : DataW.TrodAll enc Tryz.prog W 0 (fun _ => true) true Tryz.f3.params.toList args.toList ds p := hA0
 rw [Tryz.params3] at hA hval
 obtain ⟨v0, vs0, d0, ds0, p0, q0, hargs, rfl, rfl, h0, r0⟩ := trodAll_cons hA
 obtain ⟨v1, vs1, d1, ds1, p1, q1, rfl, rfl, rfl, h1, r1⟩ := trodAll_cons r0
 obtain ⟨v2, vs2, d2, ds2, p2, q2, rfl, rfl, rfl, h2, r2⟩ := trodAll_cons r1
 obtain ⟨rfl, rfl, rfl⟩ := trodAll_nil r2
 obtain rfl : args = #[v0, v1, v2] := by cases args; simp_all
 have hV : DataW.TrodVars enc Tryz.prog W (fun _ => true) Rows.fnExactAskedOfSpec.vars gs q := hV
 obtain ⟨g0, rfl⟩ : ∃ g0, gs = [g0] := by obtain ⟨_, _, _, _, d, _, e, _⟩ := trodVars_one hV; exact ⟨d, e⟩
 have k0 := h0
 have lt0 : ∀ x ∈ p0, x.block < W.heap.size := by obtain ⟨m, hm⟩ := k0; exact DataW.trod_lt m _ _ _ hm
 obtain ⟨⟨cs0⟩, rfl, _⟩ := okWide_struct Tryz.underlying36 (hval 0 36 v0 rfl rfl)
 obtain ⟨fuel0, hf0⟩ := h0
 have ht0 := o_log hf0
 simp only [Value.cells] at ht0
 obtain ⟨x, ht0⟩ := ht0
 have k1 := h1
 have lt1 : ∀ x ∈ p1, x.block < W.heap.size := by obtain ⟨m, hm⟩ := k1; exact DataW.trod_lt m _ _ _ hm
 obtain ⟨⟨cs1⟩, rfl, _⟩ := okWide_struct Tryz.underlying40 (hval 1 40 v1 rfl rfl)
 obtain ⟨fuel1, hf1⟩ := h1
 have ht1 := o_ask hf1
 simp only [Value.cells] at ht1
 obtain ⟨y, ht1⟩ := ht1
 have k2 := h2
 have lt2 : ∀ x ∈ p2, x.block < W.heap.size := by obtain ⟨m, hm⟩ := k2; exact DataW.trod_lt m _ _ _ hm
 obtain ⟨z, rfl, rfl, rfl, w2⟩ := open_int Tryz.underlying2 (hval 2 2 v2 rfl rfl) h2
 clear hA0 hval0
 refine (((law_at hL fun v hv1 => L_AskedOf v hv1 x y z)).law W [.agg ⟨cs0⟩, .agg ⟨cs1⟩, .int .i64 z] ⟨⟨cs0, rfl, ht0⟩, ⟨⟨cs1, rfl, ht1⟩, ⟨⟨⟨0, rfl, rfl⟩, trivial⟩, trivial⟩⟩⟩).mono fun e W' ⟨he, bel⟩ => ?_
 subst he
 exact ⟨_, rfl, _, [g0], _, [], _, _, hW', trodAll_mk1 (shut_bool Tryz.underlying4 _), (trodAll_cons_mk (Below.trod laidOut kr (of_decide_eq_true kr) k0 bel lt0) (trodAll_cons_mk (Below.trod laidOut kr (of_decide_eq_true kr) k1 bel lt1) (trodAll_cons_mk (shut_int Tryz.underlying2 w2) trodAll_mk0))), Below.trodVars laidOut bel kr hV, bel.frame _, fun h => by cases h⟩
theorem lifts' : (Rows.fnExactAskedOfRow.lifted == Tryz.pinned.checked.prog.liftsFinal) = true := fact_lifts
theorem make' : (Tryz.pinned.checked.prog.make == some Rows.fnExactAskedOfRow.make) = true := fact_make
theorem closed : joinedFacts Tryz.pinned.checked.prog 3 Tryz.f3 Rows.fnExactAskedOfSpec Rows.fnExactAskedOfRow = true := by
 unfold joinedFacts
 repeat' with_reducible refine (Bool.and_eq_true_iff).mpr ⟨?_, ?_⟩
 all_goals first | with_reducible exact fact_enter | with_reducible exact lifts' | with_reducible exact make' | as_aux_lemma => kernel_rfl
theorem over : Rows.fnExactAskedOfRow.holds Tryz.pinned (OpenSpec.ofChange Rows.fnExactAskedOfSpec) :=
 OpenClaim.holds_of_wide 3 Tryz.f3 rfl rfl rfl rfl rfl rfl rfl ⟨rfl, rfl, rfl, rfl, rfl⟩ rfl rfl rfl rfl rfl kr Tryz.func3 closed
  (of_decide_eq_true kr) (by unfold Func.isWrapper; first | (rw [if_pos (by decide +kernel)]; kernel_rfl) | (rw [if_neg (by decide +kernel)]; exact ⟨rfl, rfl⟩))
  (fun os started H enc _ => lifted os started H enc)
theorem proved : Rows.FnExactAskedOfCardSaid :=
  Claim7.holds_tied_plain_at .later [] [.handle, .sentinel] true (true, "ea89987a5bfe5f78ba0024934be074f7888e16f0f8e43af3614311f17668453e") true
    over (fun _ h => by cases h) kr (fun _ h => by cases h) fnExactAskedOf_row_tie rfl ⟨rfl, rfl⟩ kr rfl
    (fun f fn hf hfn => by
      obtain rfl : f = 3 := Option.some.inj ((show Tryz.prog.funcNamed "loop.example/g00851/laws.FnExactAskedOf" = some 3 by kernel_rfl).symm.trans hf) |>.symm
      obtain rfl : fn = Tryz.f3 := (Option.some.inj (Tryz.func3.symm.trans hfn)).symm
      exact ⟨by kernel_rfl, fun j t ht => by
        rw [Tryz.params3] at ht
        have h3 : t = 36 ∨ t = 40 ∨ t = 2 := by
          rcases j with _ | _ | _ | j
          · have h9 : 36 = t := by simpa using ht
            simp [← h9]
          · have h9 : 40 = t := by simpa using ht
            simp [← h9]
          · have h9 : 2 = t := by simpa using ht
            simp [← h9]
          · simp at ht
        rcases h3 with rfl | rfl | rfl
        · exact (show Tryz.prog.wantsStandIn 36 = false by kernel_rfl)
        · exact (show Tryz.prog.wantsStandIn 40 = false by kernel_rfl)
        · exact (show Tryz.prog.wantsStandIn 2 = false by kernel_rfl)⟩)
    kr
#print axioms proved
end Go.Proofs.YtinmcdcmidlgpaaGreatDoor.fnExactAskedOf
