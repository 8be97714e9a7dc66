/- Walks of functions of the program, printed by a program of the prover. -/
import Derived.Test.YtbnmbgfpbagndaaLeaf
import Derived.WalkKit
import Derived.WalkSpells
import Derived.Deep.QuietTactic
import Derived.BigQuiet
import Derived.Deep.Light
namespace Go.Proofs.Ytbnmbgfpbagndaa
open Go.RowKit
set_option maxHeartbeats 400000

def foundB (h v : Int) : Bool := inB h 0 1 && (inB v 0 999 && (h == 1 || v == 0))
theorem foundB_iff (h v : Int) : foundB h v = (h == 0 && v == 0 || h == 1 && inB v 0 999) := by
  rw [Bool.eq_iff_iff]; simp [foundB, inB]; omega
def valueOk (c s i h v : Int) : Bool := inB c 2 5 && (inB s 1 2000 && (inB i 0 2000 && foundB h v))
theorem c_laws_toValue (c s i h v : Int) (w : World) : Calls Try.prog 15 #[.agg #[.int .i64 c, .int .i64 s, .int .i64 i, .int .i64 h, .int .i64 v]] w fun e w' => e = .returned (.agg #[.int .i64 c, .int .i64 s, .int .i64 i, .int .i64 h, .int .i64 v]) ∧ Below w.heap.size w w' := by
  go_enter Try.func15, Try.ntmps15
  go_wp2
  refine bodyPost_ret (v := .agg #[.int .i64 c, .int .i64 s, .int .i64 i, .int .i64 h, .int .i64 v]) (by simp [results, Try.results15, go_sem, *]) rfl ⟨rfl, ?_⟩
  (repeat (first | with_reducible exact Below.refl _ _ | ((with_reducible refine bl_alloc ?_ ?_); (focus (first | (simp; done) | (simp; omega) | omega))) | ((with_reducible refine bl_set ?_ ?_); (focus (first | (simp; done) | (simp; omega) | omega))) | with_reducible refine bl_drew ?_ | with_reducible refine bl_drewN ?_ | ((with_reducible refine bl_step (by assumption) ?_ ?_); (focus (first | (simp; done) | (simp; omega) | omega)))))

theorem c_impl_foundOk (h v : Int) (w : World) : Calls Try.prog 48 #[.int .i64 h, .int .i64 v] w fun e w' => e = .returned (.bool (foundB h v)) ∧ w = w' := by
  go_enter Try.func48, Try.ntmps48
  go_wp2_with (first | (go_at_call 69; refine (c_impl_valueOk _ _).mono ?_; rintro e w' ⟨rfl, rfl⟩))
  all_goals go_ret
  all_goals (go_light; refine ⟨by rw [foundB_iff]; simp_all, rfl⟩)

theorem c_impl_ValueOk (c s i h v : Int) (w : World) : Calls Try.prog 16 #[.agg #[.int .i64 c, .int .i64 s, .int .i64 i, .int .i64 h, .int .i64 v]] w fun e w' => e = .returned (.bool (valueOk c s i h v)) ∧ Below w.heap.size w w' := by
  go_enter Try.func16, Try.ntmps16
  go_wp2_with (first | (go_at_call 43; refine (c_impl_AskerOk _ _).mono ?_; rintro e w' ⟨rfl, rfl⟩) | (go_at_call 44; refine (c_impl_seqOk _ _).mono ?_; rintro e w' ⟨rfl, rfl⟩) | (go_at_call 46; refine (c_impl_between _ _ _ _).mono ?_; rintro e w' ⟨rfl, rfl⟩) | (go_at_call 48; refine (c_impl_foundOk _ _ _).mono ?_; rintro e w' ⟨rfl, rfl⟩))
  all_goals go_ret
  all_goals (refine ⟨by simp [valueOk, *], ?_⟩; (repeat (first | with_reducible exact Below.refl _ _ | ((with_reducible refine bl_alloc ?_ ?_); (focus (first | (simp; done) | (simp; omega) | omega))) | ((with_reducible refine bl_set ?_ ?_); (focus (first | (simp; done) | (simp; omega) | omega))) | with_reducible refine bl_drew ?_ | with_reducible refine bl_drewN ?_ | ((with_reducible refine bl_step (by assumption) ?_ ?_); (focus (first | (simp; done) | (simp; omega) | omega))))))

theorem c_spec_ValueOk (c s i h v : Int) (w : World) : Calls Try.prog 14 #[.agg #[.int .i64 c, .int .i64 s, .int .i64 i, .int .i64 h, .int .i64 v]] w fun e w' => e = .returned (.bool (valueOk c s i h v)) ∧ Below w.heap.size w w' := by
  go_enter Try.func14, Try.ntmps14
  go_wp2_with (first | (go_at_call 39; refine (c_spec_AskerOk _ _).mono ?_; rintro e w' ⟨rfl, rfl⟩) | (go_at_call 40; refine (c_spec_l7Seq _ _).mono ?_; rintro e w' ⟨rfl, rfl⟩) | (go_at_call 42; refine (c_spec_l1In _ _ _ _).mono ?_; rintro e w' ⟨rfl, rfl⟩) | (go_at_call 47; refine (c_spec_l7Value _ _).mono ?_; rintro e w' ⟨rfl, rfl⟩))
  all_goals go_ret
  all_goals (go_light; refine ⟨by simp_all [valueOk, foundB], ?_⟩; (repeat (first | with_reducible exact Below.refl _ _ | ((with_reducible refine bl_alloc ?_ ?_); (focus (first | (simp; done) | (simp; omega) | omega))) | ((with_reducible refine bl_set ?_ ?_); (focus (first | (simp; done) | (simp; omega) | omega))) | with_reducible refine bl_drew ?_ | with_reducible refine bl_drewN ?_ | ((with_reducible refine bl_step (by assumption) ?_ ?_); (focus (first | (simp; done) | (simp; omega) | omega))))))

theorem c_laws_FnExactValueOk (c s i h v : Int) (w : World) : Calls Try.prog 4 #[.agg #[.int .i64 c, .int .i64 s, .int .i64 i, .int .i64 h, .int .i64 v]] w fun e w' => e = .returned (.bool true) ∧ Below w.heap.size w w' := by
  go_enter Try.func4, Try.ntmps4
  go_wp2_with (first | (go_at_call 15; refine (c_laws_toValue _ _ _ _ _ _).mono ?_; rintro e w' ⟨rfl, hb⟩; obtain ⟨hc, hf, hs⟩ := bcell hb; have hz := hb.size; (try simp at hz)) | (go_at_call 14; refine (c_spec_ValueOk _ _ _ _ _ _).mono ?_; rintro e w' ⟨rfl, hb⟩; obtain ⟨hc, hf, hs⟩ := bcell hb; have hz := hb.size; (try simp at hz)) | (go_at_call 16; refine (c_impl_ValueOk _ _ _ _ _ _).mono ?_; rintro e w' ⟨rfl, hb⟩; obtain ⟨hc, hf, hs⟩ := bcell hb; have hz := hb.size; (try simp at hz)))
  all_goals go_ret
  all_goals (refine ⟨by simp, ?_⟩; (repeat (first | with_reducible exact Below.refl _ _ | ((with_reducible refine bl_alloc ?_ ?_); (focus (first | (simp; done) | (simp; omega) | omega))) | ((with_reducible refine bl_set ?_ ?_); (focus (first | (simp; done) | (simp; omega) | omega))) | with_reducible refine bl_drew ?_ | with_reducible refine bl_drewN ?_ | ((with_reducible refine bl_step (by assumption) ?_ ?_); (focus (first | (simp; done) | (simp; omega) | omega))))))

end Go.Proofs.Ytbnmbgfpbagndaa
