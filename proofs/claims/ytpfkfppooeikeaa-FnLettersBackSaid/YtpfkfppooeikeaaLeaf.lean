/- Walks of functions of the program, printed by a program of the prover. -/
import Derived.Test.YtpfkfppooeikeaaRows
import Derived.Test.YtpfkfppooeikeaaMem
import Derived.WalkKit
import Derived.WalkSpells
import Derived.Deep.QuietTactic
import Derived.BigQuiet
import Derived.Deep.Light
namespace Go.Proofs.Ytpfkfppooeikeaa
open Go.RowKit
set_option maxHeartbeats 400000

def inB (x lo hi : Int) : Bool := decide (lo ≤ x) && decide (x ≤ hi)
def opOk (k a b c d : Int) : Bool :=
  if k = 1 then inB a 0 9 && inB b 0 999 && (c == 0) && (d == 0)
  else if k = 2 then inB a 0 9 && (b == 0) && (c == 0) && (d == 0)
  else if k = 3 then inB a 1 20 && inB b 0 1000000 && inB c 0 9 && inB d 0 999
  else if k = 4 then inB a 1 20 && inB b 0 1000 && (c == 0) && (d == 0)
  else if k = 5 then inB a 1 1000 && (b == 0) && (c == 0) && (d == 0)
  else false
theorem c_spec_l1In (x lo hi : Int) (w : World) : Calls Try.prog 107 #[.int .i64 x, .int .i64 lo, .int .i64 hi] w fun e w' => e = .returned (.bool (inB x lo hi)) ∧ w = w' := by
  go_enter Try.func107, Try.ntmps107
  go_wp2
  all_goals go_ret
  all_goals (simp [inB]; try omega)

theorem c_impl_between (x lo hi : Int) (w : World) : Calls Try.prog 110 #[.int .i64 x, .int .i64 lo, .int .i64 hi] w fun e w' => e = .returned (.bool (inB x lo hi)) ∧ w = w' := by
  go_enter Try.func110, Try.ntmps110
  go_wp2
  all_goals go_ret
  all_goals (simp [inB]; try omega)

theorem c_spec_AskerOk (x : Int) (w : World) : Calls Try.prog 151 #[.int .i64 x] w fun e w' => e = .returned (.bool (inB x 2 5)) ∧ w = w' := by
  go_enter Try.func151, Try.ntmps151
  go_wp2_with (first | (go_at_call 107; refine (c_spec_l1In _ _ _ _).mono ?_; rintro e w' ⟨rfl, rfl⟩))
  all_goals go_ret
  all_goals exact ⟨rfl, rfl⟩

theorem c_impl_AskerOk (x : Int) (w : World) : Calls Try.prog 170 #[.int .i64 x] w fun e w' => e = .returned (.bool (inB x 2 5)) ∧ w = w' := by
  go_enter Try.func170, Try.ntmps170
  go_wp2_with (first | (go_at_call 110; refine (c_impl_between _ _ _ _).mono ?_; rintro e w' ⟨rfl, rfl⟩))
  all_goals go_ret
  all_goals exact ⟨rfl, rfl⟩

theorem c_spec_l7Seq (x : Int) (w : World) : Calls Try.prog 152 #[.int .i64 x] w fun e w' => e = .returned (.bool (inB x 1 2000)) ∧ w = w' := by
  go_enter Try.func152, Try.ntmps152
  go_wp2_with (first | (go_at_call 107; refine (c_spec_l1In _ _ _ _).mono ?_; rintro e w' ⟨rfl, rfl⟩))
  all_goals go_ret
  all_goals exact ⟨rfl, rfl⟩

theorem c_impl_seqOk (x : Int) (w : World) : Calls Try.prog 171 #[.int .i64 x] w fun e w' => e = .returned (.bool (inB x 1 2000)) ∧ w = w' := by
  go_enter Try.func171, Try.ntmps171
  go_wp2_with (first | (go_at_call 110; refine (c_impl_between _ _ _ _).mono ?_; rintro e w' ⟨rfl, rfl⟩))
  all_goals go_ret
  all_goals exact ⟨rfl, rfl⟩

theorem c_spec_l7Key (x : Int) (w : World) : Calls Try.prog 153 #[.int .i64 x] w fun e w' => e = .returned (.bool (inB x 0 9)) ∧ w = w' := by
  go_enter Try.func153, Try.ntmps153
  go_wp2_with (first | (go_at_call 107; refine (c_spec_l1In _ _ _ _).mono ?_; rintro e w' ⟨rfl, rfl⟩))
  all_goals go_ret
  all_goals exact ⟨rfl, rfl⟩

theorem c_impl_keyOk (x : Int) (w : World) : Calls Try.prog 175 #[.int .i64 x] w fun e w' => e = .returned (.bool (inB x 0 9)) ∧ w = w' := by
  go_enter Try.func175, Try.ntmps175
  go_wp2_with (first | (go_at_call 110; refine (c_impl_between _ _ _ _).mono ?_; rintro e w' ⟨rfl, rfl⟩))
  all_goals go_ret
  all_goals exact ⟨rfl, rfl⟩

theorem c_spec_l7Value (x : Int) (w : World) : Calls Try.prog 158 #[.int .i64 x] w fun e w' => e = .returned (.bool (inB x 0 999)) ∧ w = w' := by
  go_enter Try.func158, Try.ntmps158
  go_wp2_with (first | (go_at_call 107; refine (c_spec_l1In _ _ _ _).mono ?_; rintro e w' ⟨rfl, rfl⟩))
  all_goals go_ret
  all_goals exact ⟨rfl, rfl⟩

theorem c_impl_valueOk (x : Int) (w : World) : Calls Try.prog 176 #[.int .i64 x] w fun e w' => e = .returned (.bool (inB x 0 999)) ∧ w = w' := by
  go_enter Try.func176, Try.ntmps176
  go_wp2_with (first | (go_at_call 110; refine (c_impl_between _ _ _ _).mono ?_; rintro e w' ⟨rfl, rfl⟩))
  all_goals go_ret
  all_goals exact ⟨rfl, rfl⟩

theorem c_spec_l7Index (x : Int) (w : World) : Calls Try.prog 159 #[.int .i64 x] w fun e w' => e = .returned (.bool (inB x 1 2000)) ∧ w = w' := by
  go_enter Try.func159, Try.ntmps159
  go_wp2_with (first | (go_at_call 107; refine (c_spec_l1In _ _ _ _).mono ?_; rintro e w' ⟨rfl, rfl⟩))
  all_goals go_ret
  all_goals exact ⟨rfl, rfl⟩

theorem c_impl_indexOk (x : Int) (w : World) : Calls Try.prog 168 #[.int .i64 x] w fun e w' => e = .returned (.bool (inB x 1 2000)) ∧ w = w' := by
  go_enter Try.func168, Try.ntmps168
  go_wp2_with (first | (go_at_call 110; refine (c_impl_between _ _ _ _).mono ?_; rintro e w' ⟨rfl, rfl⟩))
  all_goals go_ret
  all_goals exact ⟨rfl, rfl⟩

theorem c_spec_TimeOk (x : Int) (w : World) : Calls Try.prog 161 #[.int .i64 x] w fun e w' => e = .returned (.bool (inB x 0 1000000)) ∧ w = w' := by
  go_enter Try.func161, Try.ntmps161
  go_wp2_with (first | (go_at_call 107; refine (c_spec_l1In _ _ _ _).mono ?_; rintro e w' ⟨rfl, rfl⟩))
  all_goals go_ret
  all_goals exact ⟨rfl, rfl⟩

theorem c_impl_TimeOk (x : Int) (w : World) : Calls Try.prog 169 #[.int .i64 x] w fun e w' => e = .returned (.bool (inB x 0 1000000)) ∧ w = w' := by
  go_enter Try.func169, Try.ntmps169
  go_wp2_with (first | (go_at_call 110; refine (c_impl_between _ _ _ _).mono ?_; rintro e w' ⟨rfl, rfl⟩))
  all_goals go_ret
  all_goals exact ⟨rfl, rfl⟩

theorem c_spec_l7Id (x : Int) (w : World) : Calls Try.prog 173 #[.int .i64 x] w fun e w' => e = .returned (.bool (inB x 1 20)) ∧ w = w' := by
  go_enter Try.func173, Try.ntmps173
  go_wp2_with (first | (go_at_call 107; refine (c_spec_l1In _ _ _ _).mono ?_; rintro e w' ⟨rfl, rfl⟩))
  all_goals go_ret
  all_goals exact ⟨rfl, rfl⟩

theorem c_impl_idOk (x : Int) (w : World) : Calls Try.prog 177 #[.int .i64 x] w fun e w' => e = .returned (.bool (inB x 1 20)) ∧ w = w' := by
  go_enter Try.func177, Try.ntmps177
  go_wp2_with (first | (go_at_call 110; refine (c_impl_between _ _ _ _).mono ?_; rintro e w' ⟨rfl, rfl⟩))
  all_goals go_ret
  all_goals exact ⟨rfl, rfl⟩

theorem c_spec_ReadOk (a b c d : Int) (w : World) : Calls Try.prog 105 #[.agg #[.int .i64 a, .int .i64 b, .int .i64 c, .int .i64 d]] w fun e w' => e = .returned (.bool (inB a 2 5 && inB b 1 2000 && inB c 0 9 && inB d 0 2000)) ∧ Below w.heap.size w w' := by
  go_enter Try.func105, Try.ntmps105
  go_wp2_with (first | (go_at_call 151; refine (c_spec_AskerOk _ _).mono ?_; rintro e w' ⟨rfl, rfl⟩) | (go_at_call 152; refine (c_spec_l7Seq _ _).mono ?_; rintro e w' ⟨rfl, rfl⟩) | (go_at_call 153; refine (c_spec_l7Key _ _).mono ?_; rintro e w' ⟨rfl, rfl⟩) | (go_at_call 107; refine (c_spec_l1In _ _ _ _).mono ?_; rintro e w' ⟨rfl, rfl⟩))
  all_goals go_ret
  all_goals (refine ⟨by simp [*], ?_⟩; (repeat (first | with_reducible exact Below.refl _ _ | ((with_reducible refine bl_alloc ?_ ?_); (focus (first | (simp; done) | (simp; omega) | omega))) | ((with_reducible refine bl_set ?_ ?_); (focus (first | (simp; done) | (simp; omega) | omega))) | ((with_reducible refine bl_later ?_ ?_); (focus (first | (simp; done) | (simp; omega) | omega))) | with_reducible refine bl_drew ?_ | with_reducible refine bl_drewN ?_ | ((with_reducible refine bl_step (by assumption) ?_ ?_); (focus (first | (simp; done) | (simp; omega) | omega))))))

theorem c_impl_ReadOk (a b c d : Int) (w : World) : Calls Try.prog 195 #[.agg #[.int .i64 a, .int .i64 b, .int .i64 c, .int .i64 d]] w fun e w' => e = .returned (.bool (inB a 2 5 && inB b 1 2000 && inB c 0 9 && inB d 0 2000)) ∧ Below w.heap.size w w' := by
  go_enter Try.func195, Try.ntmps195
  go_wp2_with (first | (go_at_call 170; refine (c_impl_AskerOk _ _).mono ?_; rintro e w' ⟨rfl, rfl⟩) | (go_at_call 171; refine (c_impl_seqOk _ _).mono ?_; rintro e w' ⟨rfl, rfl⟩) | (go_at_call 175; refine (c_impl_keyOk _ _).mono ?_; rintro e w' ⟨rfl, rfl⟩) | (go_at_call 110; refine (c_impl_between _ _ _ _).mono ?_; rintro e w' ⟨rfl, rfl⟩))
  all_goals go_ret
  all_goals (refine ⟨by simp [*], ?_⟩; (repeat (first | with_reducible exact Below.refl _ _ | ((with_reducible refine bl_alloc ?_ ?_); (focus (first | (simp; done) | (simp; omega) | omega))) | ((with_reducible refine bl_set ?_ ?_); (focus (first | (simp; done) | (simp; omega) | omega))) | ((with_reducible refine bl_later ?_ ?_); (focus (first | (simp; done) | (simp; omega) | omega))) | with_reducible refine bl_drew ?_ | with_reducible refine bl_drewN ?_ | ((with_reducible refine bl_step (by assumption) ?_ ?_); (focus (first | (simp; done) | (simp; omega) | omega))))))

theorem c_spec_OpOk (k a b c d : Int) (w : World) : Calls Try.prog 160 #[.agg #[.int .i64 k, .int .i64 a, .int .i64 b, .int .i64 c, .int .i64 d]] w fun e w' => e = .returned (.bool (opOk k a b c d)) ∧ Below w.heap.size w w' := by
  go_enter Try.func160, Try.ntmps160
  go_wp2_with (first | (go_at_call 153; refine (c_spec_l7Key _ _).mono ?_; rintro e w' ⟨rfl, rfl⟩) | (go_at_call 158; refine (c_spec_l7Value _ _).mono ?_; rintro e w' ⟨rfl, rfl⟩) | (go_at_call 173; refine (c_spec_l7Id _ _).mono ?_; rintro e w' ⟨rfl, rfl⟩) | (go_at_call 161; refine (c_spec_TimeOk _ _).mono ?_; rintro e w' ⟨rfl, rfl⟩) | (go_at_call 107; refine (c_spec_l1In _ _ _ _).mono ?_; rintro e w' ⟨rfl, rfl⟩))
  all_goals go_ret
  all_goals (go_light; refine ⟨by simp_all [opOk], ?_⟩; (repeat (first | with_reducible exact Below.refl _ _ | ((with_reducible refine bl_alloc ?_ ?_); (focus (first | (simp; done) | (simp; omega) | omega))) | ((with_reducible refine bl_set ?_ ?_); (focus (first | (simp; done) | (simp; omega) | omega))) | ((with_reducible refine bl_later ?_ ?_); (focus (first | (simp; done) | (simp; omega) | omega))) | with_reducible refine bl_drew ?_ | with_reducible refine bl_drewN ?_ | ((with_reducible refine bl_step (by assumption) ?_ ?_); (focus (first | (simp; done) | (simp; omega) | omega))))))

theorem c_impl_OpOk (k a b c d : Int) (w : World) : Calls Try.prog 172 #[.agg #[.int .i64 k, .int .i64 a, .int .i64 b, .int .i64 c, .int .i64 d]] w fun e w' => e = .returned (.bool (opOk k a b c d)) ∧ Below w.heap.size w w' := by
  go_enter Try.func172, Try.ntmps172
  go_wp2_with (first | (go_at_call 175; refine (c_impl_keyOk _ _).mono ?_; rintro e w' ⟨rfl, rfl⟩) | (go_at_call 176; refine (c_impl_valueOk _ _).mono ?_; rintro e w' ⟨rfl, rfl⟩) | (go_at_call 177; refine (c_impl_idOk _ _).mono ?_; rintro e w' ⟨rfl, rfl⟩) | (go_at_call 169; refine (c_impl_TimeOk _ _).mono ?_; rintro e w' ⟨rfl, rfl⟩) | (go_at_call 110; refine (c_impl_between _ _ _ _).mono ?_; rintro e w' ⟨rfl, rfl⟩))
  all_goals go_ret
  all_goals (go_light; refine ⟨by simp_all [opOk], ?_⟩; (repeat (first | with_reducible exact Below.refl _ _ | ((with_reducible refine bl_alloc ?_ ?_); (focus (first | (simp; done) | (simp; omega) | omega))) | ((with_reducible refine bl_set ?_ ?_); (focus (first | (simp; done) | (simp; omega) | omega))) | ((with_reducible refine bl_later ?_ ?_); (focus (first | (simp; done) | (simp; omega) | omega))) | with_reducible refine bl_drew ?_ | with_reducible refine bl_drewN ?_ | ((with_reducible refine bl_step (by assumption) ?_ ?_); (focus (first | (simp; done) | (simp; omega) | omega))))))

theorem c_laws_toRead (a b c d : Int) (w : World) : Calls Try.prog 42 #[.agg #[.int .i64 a, .int .i64 b, .int .i64 c, .int .i64 d]] w fun e w' => e = .returned (.agg #[.int .i64 a, .int .i64 b, .int .i64 c, .int .i64 d]) ∧ Below w.heap.size w w' := by
  go_enter Try.func42, Try.ntmps42
  go_wp2
  refine bodyPost_ret (v := .agg #[.int .i64 a, .int .i64 b, .int .i64 c, .int .i64 d]) (by simp [results, Try.results42, go_sem, *]) rfl ⟨rfl, ?_⟩
  (repeat (first | with_reducible exact Below.refl _ _ | ((with_reducible refine bl_alloc ?_ ?_); (focus (first | (simp; done) | (simp; omega) | omega))) | ((with_reducible refine bl_set ?_ ?_); (focus (first | (simp; done) | (simp; omega) | omega))) | ((with_reducible refine bl_later ?_ ?_); (focus (first | (simp; done) | (simp; omega) | omega))) | with_reducible refine bl_drew ?_ | with_reducible refine bl_drewN ?_ | ((with_reducible refine bl_step (by assumption) ?_ ?_); (focus (first | (simp; done) | (simp; omega) | omega)))))

theorem c_laws_toOp (k a b c d : Int) (w : World) : Calls Try.prog 125 #[.agg #[.int .i64 k, .int .i64 a, .int .i64 b, .int .i64 c, .int .i64 d]] w fun e w' => e = .returned (.agg #[.int .i64 k, .int .i64 a, .int .i64 b, .int .i64 c, .int .i64 d]) ∧ Below w.heap.size w w' := by
  go_enter Try.func125, Try.ntmps125
  go_wp2
  refine bodyPost_ret (v := .agg #[.int .i64 k, .int .i64 a, .int .i64 b, .int .i64 c, .int .i64 d]) (by simp [results, Try.results125, go_sem, *]) rfl ⟨rfl, ?_⟩
  (repeat (first | with_reducible exact Below.refl _ _ | ((with_reducible refine bl_alloc ?_ ?_); (focus (first | (simp; done) | (simp; omega) | omega))) | ((with_reducible refine bl_set ?_ ?_); (focus (first | (simp; done) | (simp; omega) | omega))) | ((with_reducible refine bl_later ?_ ?_); (focus (first | (simp; done) | (simp; omega) | omega))) | with_reducible refine bl_drew ?_ | with_reducible refine bl_drewN ?_ | ((with_reducible refine bl_step (by assumption) ?_ ?_); (focus (first | (simp; done) | (simp; omega) | omega)))))

end Go.Proofs.Ytpfkfppooeikeaa
