/- Walks of functions of the program, printed by a program of the prover. -/
import Derived.Test.YtbnmbgfpbagndaaLeaf
import Derived.WalkKit
import Derived.WalkSpells
import Derived.Deep.QuietTactic
import Derived.BigQuiet
import Derived.Deep.Light
namespace Go.Proofs.Ytbnmbgfpbagndaa
open Go.RowKit
set_option maxHeartbeats 400000

def wOp (k : Int) : Int := if k == 1 then 1 else if k == 2 then 2 else if k == 3 then 3 else 0
def wantOk (k o a b c d key : Int) : Bool :=
  if k == 4 then o == 0 && a == 0 && b == 0 && c == 0 && d == 0 && inB key 0 9
  else (k == 1 || k == 2 || k == 3) && opOk o a b c d && o == k && key == 0
theorem wOp_cases (k : Int) : (k = 1 ∧ wOp k = 1) ∨ (k = 2 ∧ wOp k = 2) ∨ (k = 3 ∧ wOp k = 3) ∨ (k ≠ 1 ∧ k ≠ 2 ∧ k ≠ 3 ∧ wOp k = 0) := by
  unfold wOp; simp only [beq_iff_eq]; split
  · left; omega
  · split
    · right; left; omega
    · split <;> omega
theorem c_laws_toWant (k o a b c d key : Int) (w : World) : Calls Try.prog 28 #[.agg #[.int .i64 k, .int .i64 o, .int .i64 a, .int .i64 b, .int .i64 c, .int .i64 d, .int .i64 key]] w fun e w' => e = .returned (.agg #[.int .i64 k, .int .i64 o, .int .i64 a, .int .i64 b, .int .i64 c, .int .i64 d, .int .i64 key]) ∧ Below w.heap.size w w' := by
  go_enter Try.func28, Try.ntmps28
  go_wp2_with (first | (go_at_call 54; refine (c_laws_toOp _ _ _ _ _ _).mono ?_; rintro e w' ⟨rfl, hb⟩; obtain ⟨hc, hf, hs⟩ := bcell hb; have hz := hb.size; (try simp at hz)))
  refine bodyPost_ret (v := .agg #[.int .i64 k, .int .i64 o, .int .i64 a, .int .i64 b, .int .i64 c, .int .i64 d, .int .i64 key]) (by simp [results, Try.results28, go_sem, *]) rfl ⟨rfl, ?_⟩
  (repeat (first | with_reducible exact Below.refl _ _ | ((with_reducible refine bl_alloc ?_ ?_); (focus (first | (simp; done) | (simp; omega) | omega))) | ((with_reducible refine bl_set ?_ ?_); (focus (first | (simp; done) | (simp; omega) | omega))) | ((with_reducible refine bl_later ?_ ?_); (focus (first | (simp; done) | (simp; omega) | omega))) | with_reducible refine bl_drew ?_ | with_reducible refine bl_drewN ?_ | ((with_reducible refine bl_step (by assumption) ?_ ?_); (focus (first | (simp; done) | (simp; omega) | omega)))))

theorem c_spec_l13Op (k : Int) (w : World) : Calls Try.prog 56 #[.int .i64 k] w fun e w' => e = .returned (.int .i64 (wOp k)) ∧ w = w' := by
  go_enter Try.func56, Try.ntmps56
  go_wp2
  all_goals go_ret
  all_goals (go_light; refine ⟨by simp_all [wOp], rfl⟩)

theorem c_impl_WantOk (k o a b c d key : Int) (w : World) : Calls Try.prog 29 #[.agg #[.int .i64 k, .int .i64 o, .int .i64 a, .int .i64 b, .int .i64 c, .int .i64 d, .int .i64 key]] w fun e w' => e = .returned (.bool (wantOk k o a b c d key)) ∧ Below w.heap.size w w' := by
  go_enter Try.func29, Try.ntmps29
  go_wp2_with (first | (go_at_call 55; refine (c_impl_OpOk _ _ _ _ _ _).mono ?_; rintro e w' ⟨rfl, hb⟩; obtain ⟨hc, hf, hs⟩ := bcell hb; have hz := hb.size; (try simp at hz)) | (go_at_call 45; refine (c_impl_keyOk _ _).mono ?_; rintro e w' ⟨rfl, rfl⟩))
  all_goals go_ret
  all_goals (go_light; refine ⟨by simp_all [wantOk], ?_⟩; (repeat (first | with_reducible exact Below.refl _ _ | ((with_reducible refine bl_alloc ?_ ?_); (focus (first | (simp; done) | (simp; omega) | omega))) | ((with_reducible refine bl_set ?_ ?_); (focus (first | (simp; done) | (simp; omega) | omega))) | ((with_reducible refine bl_later ?_ ?_); (focus (first | (simp; done) | (simp; omega) | omega))) | with_reducible refine bl_drew ?_ | with_reducible refine bl_drewN ?_ | ((with_reducible refine bl_step (by assumption) ?_ ?_); (focus (first | (simp; done) | (simp; omega) | omega))))))

theorem c_spec_WantOk (k o a b c d key : Int) (w : World) : Calls Try.prog 27 #[.agg #[.int .i64 k, .int .i64 o, .int .i64 a, .int .i64 b, .int .i64 c, .int .i64 d, .int .i64 key]] w fun e w' => e = .returned (.bool (wantOk k o a b c d key)) ∧ Below w.heap.size w w' := by
  by_cases h4 : (k == 4) = true
  · go_enter Try.func27, Try.ntmps27
    go_wp2_with (first | (go_at_call 41; refine (c_spec_l7Key _ _).mono ?_; rintro e w' ⟨rfl, rfl⟩) | (go_at_call 56; refine (c_spec_l13Op _ _).mono ?_; rintro e w' ⟨rfl, rfl⟩) | (go_at_call 53; refine (c_spec_OpOk _ _ _ _ _ _).mono ?_; rintro e w' ⟨rfl, hb⟩; obtain ⟨hc, hf, hs⟩ := bcell hb; have hz := hb.size; (try simp at hz)))
    all_goals go_ret
    all_goals (go_light; refine ⟨by simp_all [wantOk], ?_⟩; (repeat (first | with_reducible exact Below.refl _ _ | ((with_reducible refine bl_alloc ?_ ?_); (focus (first | (simp; done) | (simp; omega) | omega))) | ((with_reducible refine bl_set ?_ ?_); (focus (first | (simp; done) | (simp; omega) | omega))) | ((with_reducible refine bl_later ?_ ?_); (focus (first | (simp; done) | (simp; omega) | omega))) | with_reducible refine bl_drew ?_ | with_reducible refine bl_drewN ?_ | ((with_reducible refine bl_step (by assumption) ?_ ?_); (focus (first | (simp; done) | (simp; omega) | omega))))))
  · have h5 : (k == 4) = false := by simpa using h4
    clear h4
    go_enter Try.func27, Try.ntmps27
    go_wp2_with fail
    refine wp_region_later (by kernel_rfl) (by kernel_rfl) ?_
    repeat (any_goals (first | go_big_quiet_step ((first | (go_at_call 41; exact later_same (c_spec_l7Key _ _)) | (go_at_call 56; exact later_same (c_spec_l13Op _ _)) | (go_at_call 53; exact later_call (c_spec_OpOk _ _ _ _ _ _)))) | quiet_step ((first | (go_at_call 41; exact later_same (c_spec_l7Key _ _)) | (go_at_call 56; exact later_same (c_spec_l13Op _ _)) | (go_at_call 53; exact later_call (c_spec_OpOk _ _ _ _ _ _)))) | (refine wpQuiet_step (fun K hK => ?_); go_simp; split <;> (refine hK _ ?_; clear hK K))))
    all_goals (refine wpQuiet_nil ?_; intro _ hw'; obtain ⟨x, hw''⟩ := hw'; subst hw'')
    all_goals go_wp2
    all_goals go_ret
    all_goals (have hw := wOp_cases k; go_light; refine ⟨by (rcases hw with ⟨rfl, hw⟩ | ⟨rfl, hw⟩ | ⟨rfl, hw⟩ | ⟨h1, h2, h3, hw⟩) <;> simp_all [wantOk], ?_⟩; (repeat (first | with_reducible exact Below.refl _ _ | ((with_reducible refine bl_alloc ?_ ?_); (focus (first | (simp; done) | (simp; omega) | omega))) | ((with_reducible refine bl_set ?_ ?_); (focus (first | (simp; done) | (simp; omega) | omega))) | ((with_reducible refine bl_later ?_ ?_); (focus (first | (simp; done) | (simp; omega) | omega))) | with_reducible refine bl_drew ?_ | with_reducible refine bl_drewN ?_ | ((with_reducible refine bl_step (by assumption) ?_ ?_); (focus (first | (simp; done) | (simp; omega) | omega))))))

theorem c_laws_FnExactWantOk (k o a b c d key : Int) (w : World) : Calls Try.prog 8 #[.agg #[.int .i64 k, .int .i64 o, .int .i64 a, .int .i64 b, .int .i64 c, .int .i64 d, .int .i64 key]] w fun e w' => e = .returned (.bool true) ∧ Below w.heap.size w w' := by
  go_enter Try.func8, Try.ntmps8
  go_wp2_with (first | (go_at_call 28; refine (c_laws_toWant _ _ _ _ _ _ _ _).mono ?_; rintro e w' ⟨rfl, hb⟩; obtain ⟨hc, hf, hs⟩ := bcell hb; have hz := hb.size; (try simp at hz)) | (go_at_call 27; refine (c_spec_WantOk _ _ _ _ _ _ _ _).mono ?_; rintro e w' ⟨rfl, hb⟩; obtain ⟨hc, hf, hs⟩ := bcell hb; have hz := hb.size; (try simp at hz)) | (go_at_call 29; refine (c_impl_WantOk _ _ _ _ _ _ _ _).mono ?_; rintro e w' ⟨rfl, hb⟩; obtain ⟨hc, hf, hs⟩ := bcell hb; have hz := hb.size; (try simp at hz)))
  all_goals go_ret
  all_goals (refine ⟨by simp, ?_⟩; (repeat (first | with_reducible exact Below.refl _ _ | ((with_reducible refine bl_alloc ?_ ?_); (focus (first | (simp; done) | (simp; omega) | omega))) | ((with_reducible refine bl_set ?_ ?_); (focus (first | (simp; done) | (simp; omega) | omega))) | ((with_reducible refine bl_later ?_ ?_); (focus (first | (simp; done) | (simp; omega) | omega))) | with_reducible refine bl_drew ?_ | with_reducible refine bl_drewN ?_ | ((with_reducible refine bl_step (by assumption) ?_ ?_); (focus (first | (simp; done) | (simp; omega) | omega))))))

end Go.Proofs.Ytbnmbgfpbagndaa
