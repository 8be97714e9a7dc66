/- Walks of functions of the program, printed by a program of the prover. -/
import Derived.Test.YtbnmbgfpbagndaaRows
import Derived.Test.YtbnmbgfpbagndaaMem
import Derived.WalkKit
import Derived.WalkSpells
import Derived.Deep.QuietTactic
import Derived.BigQuiet
import Derived.Deep.Light
namespace Go.Proofs.Ytbnmbgfpbagndaa
open Go.RowKit
set_option maxHeartbeats 400000

def inB (x lo hi : Int) : Bool := decide (lo ≤ x) && decide (x ≤ hi)
def opOk (k a b c d : Int) : Bool :=
  if k = 1 then inB a 0 9 && inB b 0 999 && (c == 0) && (d == 0)
  else if k = 2 then inB a 0 9 && (b == 0) && (c == 0) && (d == 0)
  else if k = 3 then inB a 1 20 && inB b 0 1000000 && inB c 0 9 && inB d 0 999
  else if k = 4 then inB a 1 20 && inB b 0 1000 && (c == 0) && (d == 0)
  else if k = 5 then inB a 1 1000 && (b == 0) && (c == 0) && (d == 0)
  else false
theorem c_spec_l1In (x lo hi : Int) (w : World) : Calls Try.prog 42 #[.int .i64 x, .int .i64 lo, .int .i64 hi] w fun e w' => e = .returned (.bool (inB x lo hi)) ∧ w = w' := by
  go_enter Try.func42, Try.ntmps42
  go_wp2
  all_goals go_ret
  all_goals (simp [inB]; try omega)

theorem c_impl_between (x lo hi : Int) (w : World) : Calls Try.prog 46 #[.int .i64 x, .int .i64 lo, .int .i64 hi] w fun e w' => e = .returned (.bool (inB x lo hi)) ∧ w = w' := by
  go_enter Try.func46, Try.ntmps46
  go_wp2
  all_goals go_ret
  all_goals (simp [inB]; try omega)

theorem c_spec_AskerOk (x : Int) (w : World) : Calls Try.prog 39 #[.int .i64 x] w fun e w' => e = .returned (.bool (inB x 2 5)) ∧ w = w' := by
  go_enter Try.func39, Try.ntmps39
  go_wp2_with (first | (go_at_call 42; refine (c_spec_l1In _ _ _ _).mono ?_; rintro e w' ⟨rfl, rfl⟩))
  all_goals go_ret
  all_goals exact ⟨rfl, rfl⟩

theorem c_impl_AskerOk (x : Int) (w : World) : Calls Try.prog 43 #[.int .i64 x] w fun e w' => e = .returned (.bool (inB x 2 5)) ∧ w = w' := by
  go_enter Try.func43, Try.ntmps43
  go_wp2_with (first | (go_at_call 46; refine (c_impl_between _ _ _ _).mono ?_; rintro e w' ⟨rfl, rfl⟩))
  all_goals go_ret
  all_goals exact ⟨rfl, rfl⟩

theorem c_spec_l7Seq (x : Int) (w : World) : Calls Try.prog 40 #[.int .i64 x] w fun e w' => e = .returned (.bool (inB x 1 2000)) ∧ w = w' := by
  go_enter Try.func40, Try.ntmps40
  go_wp2_with (first | (go_at_call 42; refine (c_spec_l1In _ _ _ _).mono ?_; rintro e w' ⟨rfl, rfl⟩))
  all_goals go_ret
  all_goals exact ⟨rfl, rfl⟩

theorem c_impl_seqOk (x : Int) (w : World) : Calls Try.prog 44 #[.int .i64 x] w fun e w' => e = .returned (.bool (inB x 1 2000)) ∧ w = w' := by
  go_enter Try.func44, Try.ntmps44
  go_wp2_with (first | (go_at_call 46; refine (c_impl_between _ _ _ _).mono ?_; rintro e w' ⟨rfl, rfl⟩))
  all_goals go_ret
  all_goals exact ⟨rfl, rfl⟩

theorem c_spec_l7Key (x : Int) (w : World) : Calls Try.prog 41 #[.int .i64 x] w fun e w' => e = .returned (.bool (inB x 0 9)) ∧ w = w' := by
  go_enter Try.func41, Try.ntmps41
  go_wp2_with (first | (go_at_call 42; refine (c_spec_l1In _ _ _ _).mono ?_; rintro e w' ⟨rfl, rfl⟩))
  all_goals go_ret
  all_goals exact ⟨rfl, rfl⟩

theorem c_impl_keyOk (x : Int) (w : World) : Calls Try.prog 45 #[.int .i64 x] w fun e w' => e = .returned (.bool (inB x 0 9)) ∧ w = w' := by
  go_enter Try.func45, Try.ntmps45
  go_wp2_with (first | (go_at_call 46; refine (c_impl_between _ _ _ _).mono ?_; rintro e w' ⟨rfl, rfl⟩))
  all_goals go_ret
  all_goals exact ⟨rfl, rfl⟩

theorem c_spec_l7Value (x : Int) (w : World) : Calls Try.prog 47 #[.int .i64 x] w fun e w' => e = .returned (.bool (inB x 0 999)) ∧ w = w' := by
  go_enter Try.func47, Try.ntmps47
  go_wp2_with (first | (go_at_call 42; refine (c_spec_l1In _ _ _ _).mono ?_; rintro e w' ⟨rfl, rfl⟩))
  all_goals go_ret
  all_goals exact ⟨rfl, rfl⟩

theorem c_impl_valueOk (x : Int) (w : World) : Calls Try.prog 69 #[.int .i64 x] w fun e w' => e = .returned (.bool (inB x 0 999)) ∧ w = w' := by
  go_enter Try.func69, Try.ntmps69
  go_wp2_with (first | (go_at_call 46; refine (c_impl_between _ _ _ _).mono ?_; rintro e w' ⟨rfl, rfl⟩))
  all_goals go_ret
  all_goals exact ⟨rfl, rfl⟩

theorem c_spec_l7Index (x : Int) (w : World) : Calls Try.prog 49 #[.int .i64 x] w fun e w' => e = .returned (.bool (inB x 1 2000)) ∧ w = w' := by
  go_enter Try.func49, Try.ntmps49
  go_wp2_with (first | (go_at_call 42; refine (c_spec_l1In _ _ _ _).mono ?_; rintro e w' ⟨rfl, rfl⟩))
  all_goals go_ret
  all_goals exact ⟨rfl, rfl⟩

theorem c_impl_indexOk (x : Int) (w : World) : Calls Try.prog 50 #[.int .i64 x] w fun e w' => e = .returned (.bool (inB x 1 2000)) ∧ w = w' := by
  go_enter Try.func50, Try.ntmps50
  go_wp2_with (first | (go_at_call 46; refine (c_impl_between _ _ _ _).mono ?_; rintro e w' ⟨rfl, rfl⟩))
  all_goals go_ret
  all_goals exact ⟨rfl, rfl⟩

theorem c_spec_TimeOk (x : Int) (w : World) : Calls Try.prog 60 #[.int .i64 x] w fun e w' => e = .returned (.bool (inB x 0 1000000)) ∧ w = w' := by
  go_enter Try.func60, Try.ntmps60
  go_wp2_with (first | (go_at_call 42; refine (c_spec_l1In _ _ _ _).mono ?_; rintro e w' ⟨rfl, rfl⟩))
  all_goals go_ret
  all_goals exact ⟨rfl, rfl⟩

theorem c_impl_TimeOk (x : Int) (w : World) : Calls Try.prog 64 #[.int .i64 x] w fun e w' => e = .returned (.bool (inB x 0 1000000)) ∧ w = w' := by
  go_enter Try.func64, Try.ntmps64
  go_wp2_with (first | (go_at_call 46; refine (c_impl_between _ _ _ _).mono ?_; rintro e w' ⟨rfl, rfl⟩))
  all_goals go_ret
  all_goals exact ⟨rfl, rfl⟩

theorem c_spec_l7Id (x : Int) (w : World) : Calls Try.prog 70 #[.int .i64 x] w fun e w' => e = .returned (.bool (inB x 1 20)) ∧ w = w' := by
  go_enter Try.func70, Try.ntmps70
  go_wp2_with (first | (go_at_call 42; refine (c_spec_l1In _ _ _ _).mono ?_; rintro e w' ⟨rfl, rfl⟩))
  all_goals go_ret
  all_goals exact ⟨rfl, rfl⟩

theorem c_impl_idOk (x : Int) (w : World) : Calls Try.prog 66 #[.int .i64 x] w fun e w' => e = .returned (.bool (inB x 1 20)) ∧ w = w' := by
  go_enter Try.func66, Try.ntmps66
  go_wp2_with (first | (go_at_call 46; refine (c_impl_between _ _ _ _).mono ?_; rintro e w' ⟨rfl, rfl⟩))
  all_goals go_ret
  all_goals exact ⟨rfl, rfl⟩

theorem c_spec_ReadOk (a b c d : Int) (w : World) : Calls Try.prog 11 #[.agg #[.int .i64 a, .int .i64 b, .int .i64 c, .int .i64 d]] w fun e w' => e = .returned (.bool (inB a 2 5 && inB b 1 2000 && inB c 0 9 && inB d 0 2000)) ∧ Below w.heap.size w w' := by
  go_enter Try.func11, Try.ntmps11
  go_wp2_with (first | (go_at_call 39; refine (c_spec_AskerOk _ _).mono ?_; rintro e w' ⟨rfl, rfl⟩) | (go_at_call 40; refine (c_spec_l7Seq _ _).mono ?_; rintro e w' ⟨rfl, rfl⟩) | (go_at_call 41; refine (c_spec_l7Key _ _).mono ?_; rintro e w' ⟨rfl, rfl⟩) | (go_at_call 42; refine (c_spec_l1In _ _ _ _).mono ?_; rintro e w' ⟨rfl, rfl⟩))
  all_goals go_ret
  all_goals (refine ⟨by simp [*], ?_⟩; (repeat (first | with_reducible exact Below.refl _ _ | ((with_reducible refine bl_alloc ?_ ?_); (focus (first | (simp; done) | (simp; omega) | omega))) | ((with_reducible refine bl_set ?_ ?_); (focus (first | (simp; done) | (simp; omega) | omega))) | ((with_reducible refine bl_later ?_ ?_); (focus (first | (simp; done) | (simp; omega) | omega))) | with_reducible refine bl_drew ?_ | with_reducible refine bl_drewN ?_ | ((with_reducible refine bl_step (by assumption) ?_ ?_); (focus (first | (simp; done) | (simp; omega) | omega))))))

theorem c_impl_ReadOk (a b c d : Int) (w : World) : Calls Try.prog 13 #[.agg #[.int .i64 a, .int .i64 b, .int .i64 c, .int .i64 d]] w fun e w' => e = .returned (.bool (inB a 2 5 && inB b 1 2000 && inB c 0 9 && inB d 0 2000)) ∧ Below w.heap.size w w' := by
  go_enter Try.func13, Try.ntmps13
  go_wp2_with (first | (go_at_call 43; refine (c_impl_AskerOk _ _).mono ?_; rintro e w' ⟨rfl, rfl⟩) | (go_at_call 44; refine (c_impl_seqOk _ _).mono ?_; rintro e w' ⟨rfl, rfl⟩) | (go_at_call 45; refine (c_impl_keyOk _ _).mono ?_; rintro e w' ⟨rfl, rfl⟩) | (go_at_call 46; refine (c_impl_between _ _ _ _).mono ?_; rintro e w' ⟨rfl, rfl⟩))
  all_goals go_ret
  all_goals (refine ⟨by simp [*], ?_⟩; (repeat (first | with_reducible exact Below.refl _ _ | ((with_reducible refine bl_alloc ?_ ?_); (focus (first | (simp; done) | (simp; omega) | omega))) | ((with_reducible refine bl_set ?_ ?_); (focus (first | (simp; done) | (simp; omega) | omega))) | ((with_reducible refine bl_later ?_ ?_); (focus (first | (simp; done) | (simp; omega) | omega))) | with_reducible refine bl_drew ?_ | with_reducible refine bl_drewN ?_ | ((with_reducible refine bl_step (by assumption) ?_ ?_); (focus (first | (simp; done) | (simp; omega) | omega))))))

theorem c_spec_OpOk (k a b c d : Int) (w : World) : Calls Try.prog 53 #[.agg #[.int .i64 k, .int .i64 a, .int .i64 b, .int .i64 c, .int .i64 d]] w fun e w' => e = .returned (.bool (opOk k a b c d)) ∧ Below w.heap.size w w' := by
  go_enter Try.func53, Try.ntmps53
  go_wp2_with (first | (go_at_call 41; refine (c_spec_l7Key _ _).mono ?_; rintro e w' ⟨rfl, rfl⟩) | (go_at_call 47; refine (c_spec_l7Value _ _).mono ?_; rintro e w' ⟨rfl, rfl⟩) | (go_at_call 70; refine (c_spec_l7Id _ _).mono ?_; rintro e w' ⟨rfl, rfl⟩) | (go_at_call 60; refine (c_spec_TimeOk _ _).mono ?_; rintro e w' ⟨rfl, rfl⟩) | (go_at_call 42; refine (c_spec_l1In _ _ _ _).mono ?_; rintro e w' ⟨rfl, rfl⟩))
  all_goals go_ret
  all_goals (go_light; refine ⟨by simp_all [opOk], ?_⟩; (repeat (first | with_reducible exact Below.refl _ _ | ((with_reducible refine bl_alloc ?_ ?_); (focus (first | (simp; done) | (simp; omega) | omega))) | ((with_reducible refine bl_set ?_ ?_); (focus (first | (simp; done) | (simp; omega) | omega))) | ((with_reducible refine bl_later ?_ ?_); (focus (first | (simp; done) | (simp; omega) | omega))) | with_reducible refine bl_drew ?_ | with_reducible refine bl_drewN ?_ | ((with_reducible refine bl_step (by assumption) ?_ ?_); (focus (first | (simp; done) | (simp; omega) | omega))))))

theorem c_impl_OpOk (k a b c d : Int) (w : World) : Calls Try.prog 55 #[.agg #[.int .i64 k, .int .i64 a, .int .i64 b, .int .i64 c, .int .i64 d]] w fun e w' => e = .returned (.bool (opOk k a b c d)) ∧ Below w.heap.size w w' := by
  go_enter Try.func55, Try.ntmps55
  go_wp2_with (first | (go_at_call 45; refine (c_impl_keyOk _ _).mono ?_; rintro e w' ⟨rfl, rfl⟩) | (go_at_call 69; refine (c_impl_valueOk _ _).mono ?_; rintro e w' ⟨rfl, rfl⟩) | (go_at_call 66; refine (c_impl_idOk _ _).mono ?_; rintro e w' ⟨rfl, rfl⟩) | (go_at_call 64; refine (c_impl_TimeOk _ _).mono ?_; rintro e w' ⟨rfl, rfl⟩) | (go_at_call 46; refine (c_impl_between _ _ _ _).mono ?_; rintro e w' ⟨rfl, rfl⟩))
  all_goals go_ret
  all_goals (go_light; refine ⟨by simp_all [opOk], ?_⟩; (repeat (first | with_reducible exact Below.refl _ _ | ((with_reducible refine bl_alloc ?_ ?_); (focus (first | (simp; done) | (simp; omega) | omega))) | ((with_reducible refine bl_set ?_ ?_); (focus (first | (simp; done) | (simp; omega) | omega))) | ((with_reducible refine bl_later ?_ ?_); (focus (first | (simp; done) | (simp; omega) | omega))) | with_reducible refine bl_drew ?_ | with_reducible refine bl_drewN ?_ | ((with_reducible refine bl_step (by assumption) ?_ ?_); (focus (first | (simp; done) | (simp; omega) | omega))))))

theorem c_laws_toRead (a b c d : Int) (w : World) : Calls Try.prog 12 #[.agg #[.int .i64 a, .int .i64 b, .int .i64 c, .int .i64 d]] w fun e w' => e = .returned (.agg #[.int .i64 a, .int .i64 b, .int .i64 c, .int .i64 d]) ∧ Below w.heap.size w w' := by
  go_enter Try.func12, Try.ntmps12
  go_wp2
  refine bodyPost_ret (v := .agg #[.int .i64 a, .int .i64 b, .int .i64 c, .int .i64 d]) (by simp [results, Try.results12, go_sem, *]) rfl ⟨rfl, ?_⟩
  (repeat (first | with_reducible exact Below.refl _ _ | ((with_reducible refine bl_alloc ?_ ?_); (focus (first | (simp; done) | (simp; omega) | omega))) | ((with_reducible refine bl_set ?_ ?_); (focus (first | (simp; done) | (simp; omega) | omega))) | ((with_reducible refine bl_later ?_ ?_); (focus (first | (simp; done) | (simp; omega) | omega))) | with_reducible refine bl_drew ?_ | with_reducible refine bl_drewN ?_ | ((with_reducible refine bl_step (by assumption) ?_ ?_); (focus (first | (simp; done) | (simp; omega) | omega)))))

theorem c_laws_toOp (k a b c d : Int) (w : World) : Calls Try.prog 54 #[.agg #[.int .i64 k, .int .i64 a, .int .i64 b, .int .i64 c, .int .i64 d]] w fun e w' => e = .returned (.agg #[.int .i64 k, .int .i64 a, .int .i64 b, .int .i64 c, .int .i64 d]) ∧ Below w.heap.size w w' := by
  go_enter Try.func54, Try.ntmps54
  go_wp2
  refine bodyPost_ret (v := .agg #[.int .i64 k, .int .i64 a, .int .i64 b, .int .i64 c, .int .i64 d]) (by simp [results, Try.results54, go_sem, *]) rfl ⟨rfl, ?_⟩
  (repeat (first | with_reducible exact Below.refl _ _ | ((with_reducible refine bl_alloc ?_ ?_); (focus (first | (simp; done) | (simp; omega) | omega))) | ((with_reducible refine bl_set ?_ ?_); (focus (first | (simp; done) | (simp; omega) | omega))) | ((with_reducible refine bl_later ?_ ?_); (focus (first | (simp; done) | (simp; omega) | omega))) | with_reducible refine bl_drew ?_ | with_reducible refine bl_drewN ?_ | ((with_reducible refine bl_step (by assumption) ?_ ?_); (focus (first | (simp; done) | (simp; omega) | omega)))))

end Go.Proofs.Ytbnmbgfpbagndaa
