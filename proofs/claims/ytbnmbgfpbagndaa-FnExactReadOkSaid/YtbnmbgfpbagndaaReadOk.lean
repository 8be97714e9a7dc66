/- Walks of functions of the program, printed by a program of the prover. -/
import Derived.Test.YtbnmbgfpbagndaaLeaf
import Derived.WalkKit
import Derived.WalkSpells
import Derived.Deep.QuietTactic
import Derived.BigQuiet
import Derived.Deep.Light
namespace Go.Proofs.Ytbnmbgfpbagndaa
open Go.RowKit
set_option maxHeartbeats 400000
theorem c_laws_FnExactReadOk (a b c d : Int) (w : World) : Calls Try.prog 3 #[.agg #[.int .i64 a, .int .i64 b, .int .i64 c, .int .i64 d]] w fun e w' => e = .returned (.bool true) ∧ Below w.heap.size w w' := by
  go_enter Try.func3, Try.ntmps3
  go_wp2_with (first | (go_at_call 12; refine (c_laws_toRead _ _ _ _ _).mono ?_; rintro e w' ⟨rfl, hb⟩; obtain ⟨hc, hf, hs⟩ := bcell hb; have hz := hb.size; (try simp at hz)) | (go_at_call 11; refine (c_spec_ReadOk _ _ _ _ _).mono ?_; rintro e w' ⟨rfl, hb⟩; obtain ⟨hc, hf, hs⟩ := bcell hb; have hz := hb.size; (try simp at hz)) | (go_at_call 13; refine (c_impl_ReadOk _ _ _ _ _).mono ?_; rintro e w' ⟨rfl, hb⟩; obtain ⟨hc, hf, hs⟩ := bcell hb; have hz := hb.size; (try simp at hz)))
  all_goals go_ret
  all_goals (refine ⟨by simp, ?_⟩; repeat (first | exact Below.refl _ _ | (refine Below.alloc ?_ (by first | (simp; done) | (simp; omega) | omega) _) | (refine bstep (by assumption) ?_ (by first | (simp; done) | (simp; omega) | omega))))

end Go.Proofs.Ytbnmbgfpbagndaa
