/- Walks of functions of the program, printed by a program of the prover. -/
import Derived.Test.YtmjafclpeknpcaaRows
import Derived.Test.YtmjafclpeknpcaaMem
import Derived.WalkKit
import Derived.WalkSpells
import Derived.Deep.QuietTactic
import Derived.BigQuiet
import Derived.Deep.Light
namespace Go.Proofs.Ytmjafclpeknpcaa
open Go.RowKit
set_option maxHeartbeats 400000

def inB (x lo hi : Int) : Bool := decide (lo ≤ x) && decide (x ≤ hi)
def opOk (k a b c d : Int) : Bool :=
  if k = 1 then inB a 0 9 && inB b 0 999 && (c == 0) && (d == 0)
  else if k = 2 then inB a 0 9 && (b == 0) && (c == 0) && (d == 0)
  else if k = 3 then inB a 1 20 && inB b 0 1000000 && inB c 0 9 && inB d 0 999
  else if k = 4 then inB a 1 20 && inB b 0 1000 && (c == 0) && (d == 0)
  else if k = 5 then inB a 1 1000 && (b == 0) && (c == 0) && (d == 0)
  else false
theorem c_spec_l1In (x lo hi : Int) (w : World) : Calls Try.prog 122 #[.int .i64 x, .int .i64 lo, .int .i64 hi] w fun e w' => e = .returned (.bool (inB x lo hi)) ∧ w = w' := by
  go_enter Try.func122, Try.ntmps122
  go_wp2
  all_goals go_ret
  all_goals (simp [inB]; try omega)

theorem c_impl_between (x lo hi : Int) (w : World) : Calls Try.prog 143 #[.int .i64 x, .int .i64 lo, .int .i64 hi] w fun e w' => e = .returned (.bool (inB x lo hi)) ∧ w = w' := by
  go_enter Try.func143, Try.ntmps143
  go_wp2
  all_goals go_ret
  all_goals (simp [inB]; try omega)

theorem c_spec_AskerOk (x : Int) (w : World) : Calls Try.prog 77 #[.int .i64 x] w fun e w' => e = .returned (.bool (inB x 2 5)) ∧ w = w' := by
  go_enter Try.func77, Try.ntmps77
  go_wp2_with (first | (go_at_call 122; refine (c_spec_l1In _ _ _ _).mono ?_; rintro e w' ⟨rfl, rfl⟩))
  all_goals go_ret
  all_goals exact ⟨rfl, rfl⟩

theorem c_impl_AskerOk (x : Int) (w : World) : Calls Try.prog 145 #[.int .i64 x] w fun e w' => e = .returned (.bool (inB x 2 5)) ∧ w = w' := by
  go_enter Try.func145, Try.ntmps145
  go_wp2_with (first | (go_at_call 143; refine (c_impl_between _ _ _ _).mono ?_; rintro e w' ⟨rfl, rfl⟩))
  all_goals go_ret
  all_goals exact ⟨rfl, rfl⟩

theorem c_spec_l7Seq (x : Int) (w : World) : Calls Try.prog 78 #[.int .i64 x] w fun e w' => e = .returned (.bool (inB x 1 2000)) ∧ w = w' := by
  go_enter Try.func78, Try.ntmps78
  go_wp2_with (first | (go_at_call 122; refine (c_spec_l1In _ _ _ _).mono ?_; rintro e w' ⟨rfl, rfl⟩))
  all_goals go_ret
  all_goals exact ⟨rfl, rfl⟩

theorem c_impl_seqOk (x : Int) (w : World) : Calls Try.prog 146 #[.int .i64 x] w fun e w' => e = .returned (.bool (inB x 1 2000)) ∧ w = w' := by
  go_enter Try.func146, Try.ntmps146
  go_wp2_with (first | (go_at_call 143; refine (c_impl_between _ _ _ _).mono ?_; rintro e w' ⟨rfl, rfl⟩))
  all_goals go_ret
  all_goals exact ⟨rfl, rfl⟩

theorem c_spec_l7Key (x : Int) (w : World) : Calls Try.prog 130 #[.int .i64 x] w fun e w' => e = .returned (.bool (inB x 0 9)) ∧ w = w' := by
  go_enter Try.func130, Try.ntmps130
  go_wp2_with (first | (go_at_call 122; refine (c_spec_l1In _ _ _ _).mono ?_; rintro e w' ⟨rfl, rfl⟩))
  all_goals go_ret
  all_goals exact ⟨rfl, rfl⟩

theorem c_impl_keyOk (x : Int) (w : World) : Calls Try.prog 163 #[.int .i64 x] w fun e w' => e = .returned (.bool (inB x 0 9)) ∧ w = w' := by
  go_enter Try.func163, Try.ntmps163
  go_wp2_with (first | (go_at_call 143; refine (c_impl_between _ _ _ _).mono ?_; rintro e w' ⟨rfl, rfl⟩))
  all_goals go_ret
  all_goals exact ⟨rfl, rfl⟩

theorem c_spec_l7Value (x : Int) (w : World) : Calls Try.prog 131 #[.int .i64 x] w fun e w' => e = .returned (.bool (inB x 0 999)) ∧ w = w' := by
  go_enter Try.func131, Try.ntmps131
  go_wp2_with (first | (go_at_call 122; refine (c_spec_l1In _ _ _ _).mono ?_; rintro e w' ⟨rfl, rfl⟩))
  all_goals go_ret
  all_goals exact ⟨rfl, rfl⟩

theorem c_impl_valueOk (x : Int) (w : World) : Calls Try.prog 164 #[.int .i64 x] w fun e w' => e = .returned (.bool (inB x 0 999)) ∧ w = w' := by
  go_enter Try.func164, Try.ntmps164
  go_wp2_with (first | (go_at_call 143; refine (c_impl_between _ _ _ _).mono ?_; rintro e w' ⟨rfl, rfl⟩))
  all_goals go_ret
  all_goals exact ⟨rfl, rfl⟩

theorem c_spec_l7Index (x : Int) (w : World) : Calls Try.prog 75 #[.int .i64 x] w fun e w' => e = .returned (.bool (inB x 1 2000)) ∧ w = w' := by
  go_enter Try.func75, Try.ntmps75
  go_wp2_with (first | (go_at_call 122; refine (c_spec_l1In _ _ _ _).mono ?_; rintro e w' ⟨rfl, rfl⟩))
  all_goals go_ret
  all_goals exact ⟨rfl, rfl⟩

theorem c_impl_indexOk (x : Int) (w : World) : Calls Try.prog 88 #[.int .i64 x] w fun e w' => e = .returned (.bool (inB x 1 2000)) ∧ w = w' := by
  go_enter Try.func88, Try.ntmps88
  go_wp2_with (first | (go_at_call 143; refine (c_impl_between _ _ _ _).mono ?_; rintro e w' ⟨rfl, rfl⟩))
  all_goals go_ret
  all_goals exact ⟨rfl, rfl⟩

theorem c_spec_TimeOk (x : Int) (w : World) : Calls Try.prog 76 #[.int .i64 x] w fun e w' => e = .returned (.bool (inB x 0 1000000)) ∧ w = w' := by
  go_enter Try.func76, Try.ntmps76
  go_wp2_with (first | (go_at_call 122; refine (c_spec_l1In _ _ _ _).mono ?_; rintro e w' ⟨rfl, rfl⟩))
  all_goals go_ret
  all_goals exact ⟨rfl, rfl⟩

theorem c_impl_TimeOk (x : Int) (w : World) : Calls Try.prog 144 #[.int .i64 x] w fun e w' => e = .returned (.bool (inB x 0 1000000)) ∧ w = w' := by
  go_enter Try.func144, Try.ntmps144
  go_wp2_with (first | (go_at_call 143; refine (c_impl_between _ _ _ _).mono ?_; rintro e w' ⟨rfl, rfl⟩))
  all_goals go_ret
  all_goals exact ⟨rfl, rfl⟩

theorem c_spec_l7Id (x : Int) (w : World) : Calls Try.prog 132 #[.int .i64 x] w fun e w' => e = .returned (.bool (inB x 1 20)) ∧ w = w' := by
  go_enter Try.func132, Try.ntmps132
  go_wp2_with (first | (go_at_call 122; refine (c_spec_l1In _ _ _ _).mono ?_; rintro e w' ⟨rfl, rfl⟩))
  all_goals go_ret
  all_goals exact ⟨rfl, rfl⟩

theorem c_impl_idOk (x : Int) (w : World) : Calls Try.prog 165 #[.int .i64 x] w fun e w' => e = .returned (.bool (inB x 1 20)) ∧ w = w' := by
  go_enter Try.func165, Try.ntmps165
  go_wp2_with (first | (go_at_call 143; refine (c_impl_between _ _ _ _).mono ?_; rintro e w' ⟨rfl, rfl⟩))
  all_goals go_ret
  all_goals exact ⟨rfl, rfl⟩

theorem c_spec_OpOk (k a b c d : Int) (w : World) : Calls Try.prog 79 #[.agg #[.int .i64 k, .int .i64 a, .int .i64 b, .int .i64 c, .int .i64 d]] w fun e w' => e = .returned (.bool (opOk k a b c d)) ∧ Below w.heap.size w w' := by
  go_enter Try.func79, Try.ntmps79
  go_wp2_with (first | (go_at_call 130; refine (c_spec_l7Key _ _).mono ?_; rintro e w' ⟨rfl, rfl⟩) | (go_at_call 131; refine (c_spec_l7Value _ _).mono ?_; rintro e w' ⟨rfl, rfl⟩) | (go_at_call 132; refine (c_spec_l7Id _ _).mono ?_; rintro e w' ⟨rfl, rfl⟩) | (go_at_call 76; refine (c_spec_TimeOk _ _).mono ?_; rintro e w' ⟨rfl, rfl⟩) | (go_at_call 122; refine (c_spec_l1In _ _ _ _).mono ?_; rintro e w' ⟨rfl, rfl⟩))
  all_goals go_ret
  all_goals (go_light; refine ⟨by simp_all [opOk], ?_⟩; (repeat (first | with_reducible exact Below.refl _ _ | ((with_reducible refine bl_alloc ?_ ?_); (focus (first | (simp; done) | (simp; omega) | omega))) | ((with_reducible refine bl_set ?_ ?_); (focus (first | (simp; done) | (simp; omega) | omega))) | ((with_reducible refine bl_later ?_ ?_); (focus (first | (simp; done) | (simp; omega) | omega))) | with_reducible refine bl_drew ?_ | with_reducible refine bl_drewN ?_ | ((with_reducible refine bl_step (by assumption) ?_ ?_); (focus (first | (simp; done) | (simp; omega) | omega))))))

theorem c_impl_OpOk (k a b c d : Int) (w : World) : Calls Try.prog 147 #[.agg #[.int .i64 k, .int .i64 a, .int .i64 b, .int .i64 c, .int .i64 d]] w fun e w' => e = .returned (.bool (opOk k a b c d)) ∧ Below w.heap.size w w' := by
  go_enter Try.func147, Try.ntmps147
  go_wp2_with (first | (go_at_call 163; refine (c_impl_keyOk _ _).mono ?_; rintro e w' ⟨rfl, rfl⟩) | (go_at_call 164; refine (c_impl_valueOk _ _).mono ?_; rintro e w' ⟨rfl, rfl⟩) | (go_at_call 165; refine (c_impl_idOk _ _).mono ?_; rintro e w' ⟨rfl, rfl⟩) | (go_at_call 144; refine (c_impl_TimeOk _ _).mono ?_; rintro e w' ⟨rfl, rfl⟩) | (go_at_call 143; refine (c_impl_between _ _ _ _).mono ?_; rintro e w' ⟨rfl, rfl⟩))
  all_goals go_ret
  all_goals (go_light; refine ⟨by simp_all [opOk], ?_⟩; (repeat (first | with_reducible exact Below.refl _ _ | ((with_reducible refine bl_alloc ?_ ?_); (focus (first | (simp; done) | (simp; omega) | omega))) | ((with_reducible refine bl_set ?_ ?_); (focus (first | (simp; done) | (simp; omega) | omega))) | ((with_reducible refine bl_later ?_ ?_); (focus (first | (simp; done) | (simp; omega) | omega))) | with_reducible refine bl_drew ?_ | with_reducible refine bl_drewN ?_ | ((with_reducible refine bl_step (by assumption) ?_ ?_); (focus (first | (simp; done) | (simp; omega) | omega))))))

theorem c_laws_toOp (k a b c d : Int) (w : World) : Calls Try.prog 37 #[.agg #[.int .i64 k, .int .i64 a, .int .i64 b, .int .i64 c, .int .i64 d]] w fun e w' => e = .returned (.agg #[.int .i64 k, .int .i64 a, .int .i64 b, .int .i64 c, .int .i64 d]) ∧ Below w.heap.size w w' := by
  go_enter Try.func37, Try.ntmps37
  go_wp2
  refine bodyPost_ret (v := .agg #[.int .i64 k, .int .i64 a, .int .i64 b, .int .i64 c, .int .i64 d]) (by simp [results, Try.results37, go_sem, *]) rfl ⟨rfl, ?_⟩
  (repeat (first | with_reducible exact Below.refl _ _ | ((with_reducible refine bl_alloc ?_ ?_); (focus (first | (simp; done) | (simp; omega) | omega))) | ((with_reducible refine bl_set ?_ ?_); (focus (first | (simp; done) | (simp; omega) | omega))) | ((with_reducible refine bl_later ?_ ?_); (focus (first | (simp; done) | (simp; omega) | omega))) | with_reducible refine bl_drew ?_ | with_reducible refine bl_drewN ?_ | ((with_reducible refine bl_step (by assumption) ?_ ?_); (focus (first | (simp; done) | (simp; omega) | omega)))))

end Go.Proofs.Ytmjafclpeknpcaa
