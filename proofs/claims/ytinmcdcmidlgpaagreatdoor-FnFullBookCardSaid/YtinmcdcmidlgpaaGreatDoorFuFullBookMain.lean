/- The statement of laws.FnFullBook: for every input the law returns true and its arguments read behind the call as before it. No condition. -/
import Derived.Test.YtinmcdcmidlgpaaGreatDoorFuF86
import Derived.Test.YtinmcdcmidlgpaaGreatDoorFuVDE
import Derived.Test.YtinmcdcmidlgpaaGreatDoorFuFacts
import Derived.WalkKit
import Derived.ProofKit
import Derived.OpenShut
import Derived.ChangeOld
import Derived.Below
import Derived.OpenVars
import Derived.LaidMore
import Derived.LaidLaws
import Derived.Stop.Joined
import Derived.SevenTiedAt
import Derived.Test.YtinmcdcmidlgpaaGreatDoorCards
import Derived.Test.YtinmcdcmidlgpaaGreatDoorTie
namespace Go.Proofs.YtinmcdcmidlgpaaGreatDoor.fnFullBook
open Go.ChangeShapes Go.WideShapes Go.ChangeAt Go.RowKit Go.Deep
set_option linter.unusedVariables false
set_option maxHeartbeats 2000000
theorem own : ownKnob Tryz.prog.godebug = none := by kernel_rfl
theorem laidOut : laidOutB Tryz.prog = true := by kernel_rfl
abbrev laidL : List (String × DataW Unit) := [("errors.errorType", Rows.laid_errors_errorType), ("loop.example/g00851/impl.errFull", Rows.laid_loop_example_g00851_impl_errFull)]
set_option maxRecDepth 100000 in
theorem door_met (os : Os) (args : Array Value) : laidMetH Tryz.prog laidL ((World.doorLaid Tryz.prog 400 os).forCall (fun _ _ => 0) ⟨#[], args, []⟩).memory :=
 laidMetH_of_parts3 (fuel := 8) (laidMet_of_run' 8 kr kr) kr kr
set_option maxRecDepth 100000 in
theorem lifted (os : Os) (started : os.Started) (H : Type) (enc : TypeId × Value → H) :
  ReturnsInHanded {} Tryz.checked os 5 .any (fun w args => (Rows.fnFullBookSpec.pre enc Tryz.prog Tryz.f5 [] false w args ∧ laidMetH Tryz.prog laidL w) ∧ sizedMet enc Tryz.prog Tryz.f5 (OpenSpec.ofChange Rows.fnFullBookSpec) false w args)
   (Rows.fnFullBookSpec.post enc Tryz.prog Tryz.f5 false true false false) := by
 refine returnsInHanded_of_change_and (C := Tryz.checked) (X := fun w _ => laidMetH Tryz.prog laidL w) (fun _ _ _ hh h => h.of_heap hh) own started kr Tryz.func5
  (ChangeSpec.witness_shaped (enc := enc) (C := Tryz.checked) (os := os) (X := fun w _ => laidMetH Tryz.prog laidL w) false (World.doorLaid Tryz.prog 400 os) #[.slice none 0 0] 8 rfl (World.shaped_of_RefB kr kr) kr kr kr (door_met os _)) ?_
 intro W base args ds gs before hval0 hW _ _ hL _
 have hval : ∀ (j : Nat) t v, Tryz.f5.params[j]? = some t → args[j]? = some v → Value.okWide Tryz.prog W .any base t v := hval0
 have hW' := hW
 obtain ⟨p, q, hA0, hV, rfl, hfz, hnd⟩ := hW
 have hA : DataW.TrodAll enc Tryz.prog W 0 (fun _ => true) true Tryz.f5.params.toList args.toList ds p := hA0
 rw [Tryz.params5] at hA hval
 obtain ⟨v0, vs0, d0, ds0, p0, q0, hargs, rfl, rfl, h0, r0⟩ := trodAll_cons hA
 obtain ⟨rfl, rfl, rfl⟩ := trodAll_nil r0
 obtain rfl : args = #[v0] := by cases args; simp_all
 have hV : DataW.TrodVars enc Tryz.prog W (fun _ => true) Rows.fnFullBookSpec.vars gs q := hV
 obtain ⟨g0, rfl⟩ : ∃ g0, gs = [g0] := by obtain ⟨_, _, _, _, d, _, e, _⟩ := trodVars_one hV; exact ⟨d, e⟩
 have k0 := h0
 have lt0 : ∀ x ∈ p0, x.block < W.heap.size := by obtain ⟨m, hm⟩ := k0; exact DataW.trod_lt m _ _ _ hm
 obtain ⟨a0, len0, cap0, rfl⟩ := okWide_slice Tryz.underlying68 (hval 0 68 v0 rfl rfl)
 obtain ⟨l, hl, hr0⟩ := open_bytesX Tryz.underlying68 Tryz.underlying5 kr h0
 clear hA0 hval0
 refine (((law_at hL fun v hv1 => L_FullBook v hv1 l hl)).law W [.slice a0 len0 cap0] ⟨⟨hr0, trivial⟩, trivial⟩).mono fun e W' ⟨he, bel⟩ => ?_
 subst he
 exact ⟨_, rfl, _, [g0], _, [], _, _, hW', trodAll_mk1 (shut_bool Tryz.underlying4 _), (trodAll_cons_mk (Below.trod laidOut kr (of_decide_eq_true kr) k0 bel lt0) trodAll_mk0), Below.trodVars laidOut bel kr hV, bel.frame _, fun h => by cases h⟩
theorem lifts' : (Rows.fnFullBookRow.lifted == Tryz.pinned.checked.prog.liftsFinal) = true := fact_lifts
theorem make' : (Tryz.pinned.checked.prog.make == some Rows.fnFullBookRow.make) = true := fact_make
theorem closed : joinedFacts Tryz.pinned.checked.prog 5 Tryz.f5 Rows.fnFullBookSpec Rows.fnFullBookRow = true := by
 unfold joinedFacts
 repeat' with_reducible refine (Bool.and_eq_true_iff).mpr ⟨?_, ?_⟩
 all_goals first | with_reducible exact fact_enter | with_reducible exact lifts' | with_reducible exact make' | as_aux_lemma => kernel_rfl
theorem over : Rows.fnFullBookRow.holds Tryz.pinned (OpenSpec.ofChange Rows.fnFullBookSpec) :=
 OpenClaim.holds_of_wide 5 Tryz.f5 rfl rfl rfl rfl rfl rfl rfl ⟨rfl, rfl, rfl, rfl, rfl⟩ rfl rfl rfl rfl rfl kr Tryz.func5 closed
  (of_decide_eq_true kr) (by unfold Func.isWrapper; first | (rw [if_pos (by decide +kernel)]; kernel_rfl) | (rw [if_neg (by decide +kernel)]; exact ⟨rfl, rfl⟩))
  (fun os started H enc _ => lifted os started H enc)
theorem proved : Rows.FnFullBookCardSaid :=
  Claim7.holds_tied_plain_at .later [] [.handle, .sentinel] true (true, "ea89987a5bfe5f78ba0024934be074f7888e16f0f8e43af3614311f17668453e") true
    over (fun _ h => by cases h) kr (fun _ h => by cases h) fnFullBook_row_tie rfl ⟨rfl, rfl⟩ kr rfl
    (fun f fn hf hfn => by
      obtain rfl : f = 5 := Option.some.inj ((show Tryz.prog.funcNamed "loop.example/g00851/laws.FnFullBook" = some 5 by kernel_rfl).symm.trans hf) |>.symm
      obtain rfl : fn = Tryz.f5 := (Option.some.inj (Tryz.func5.symm.trans hfn)).symm
      exact ⟨by kernel_rfl, fun j t ht => by
        rw [Tryz.params5] at ht
        have h3 : t = 68 := by
          rcases j with _ | j
          · simpa using ht.symm
          · simp at ht
        subst h3
        exact (show Tryz.prog.wantsStandIn 68 = false by kernel_rfl)⟩)
    kr
#print axioms proved
end Go.Proofs.YtinmcdcmidlgpaaGreatDoor.fnFullBook
