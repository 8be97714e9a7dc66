/- Walks of functions of the program, printed by a program of the prover. -/
import Derived.Test.YtpfkfppooeikeaaJobsF
import Derived.Test.YtpfkfppooeikeaaIface
import Derived.WalkKit
import Derived.WalkSpells
import Derived.Deep.QuietTactic
import Derived.BigQuiet
import Derived.Deep.Light
import Derived.Lib.Hide
import Derived.Deep.RegionHeld3
namespace Go.Proofs.Ytpfkfppooeikeaa
open Go.ChangeShapes Go.WideShapes Go.ChangeAt Go.RowKit Go.Deep
set_option maxHeartbeats 1600000
set_option maxRecDepth 100000

theorem c_kindOf_Jobs (ji jt jh je ju : Int) (ao : Option Addr) (cap : Nat) (l : List (Int × Int)) (w : World) : Calls Try.prog 149 #[.iface 99 (.agg #[.int .i64 ji, .int .i64 jt, .int .i64 jh, .int .i64 je, .int .i64 ju, .slice ao l.length cap])] w fun e w' => e = .returned (.int .i64 9) ∧ w = w' := by
  have n_Ask := ta_Ask 99 (by decide)
  have n_Ack := ta_Ack 99 (by decide)
  have n_fetch := ta_fetch 99 (by decide)
  have n_Feed := ta_Feed 99 (by decide)
  have n_trim := ta_trim 99 (by decide)
  have n_Read := ta_Read 99 (by decide)
  have n_Value := ta_Value 99 (by decide)
  have n_poll := ta_poll 99 (by decide)
  have yes := @ta_yes Try.prog 99 179 _ Try.underlying99 rfl
  go_enter Try.func149, Try.ntmps149
  go_wp2
  go_ret
  exact ⟨rfl, rfl⟩
theorem c_Jobs_valid (ji jt jh je ju : Int) (ao : Option Addr) (cap : Nat) (l : List (Int × Int)) (w : World) (hl : ReadA dueE w ao l) : Calls Try.prog 211 #[.agg #[.int .i64 ji, .int .i64 jt, .int .i64 jh, .int .i64 je, .int .i64 ju, .slice ao l.length cap]] w fun e w' => e = .returned (.bool (jobsOk ji jt jh je ju l)) ∧ Below w.heap.size w w' := by
  have Hl : Hid (∀ W, Below w.heap.size w W → ReadA dueE W ao l) := fun W hb => hl.below hb
  go_enter Try.func211, Try.ntmps211
  go_wp2_with (go_at_call 212; refine (c_impl_JobsOk2 _ _ _ _ _ _ _ _ _ (Hl.out _ (by (repeat (first | with_reducible exact Below.refl _ _ | ((with_reducible refine bl_alloc ?_ ?_); (focus (first | (simp; done) | (simp; omega) | omega))) | ((with_reducible refine bl_set ?_ ?_); (focus (first | (simp; done) | (simp; omega) | omega))) | ((with_reducible refine bl_later ?_ ?_); (focus (first | (simp; done) | (simp; omega) | omega))) | with_reducible refine bl_drew ?_ | with_reducible refine bl_drewN ?_ | ((with_reducible refine bl_step (by assumption) ?_ ?_); (focus (first | (simp; done) | (simp; omega) | omega)))))))).mono ?_; rintro e w1 ⟨rfl, hb1⟩; have hBx := (Bx.new w _ 99).below hb1; have hw1 : Below w.heap.size w w1 := bl_step hb1 (by simp) ((Below.refl _ w).alloc (Nat.le_refl _) _); have hsz1 := hb1.size; (try simp only [World.size_alloc] at hsz1); have hc := hBx.2; clear hb1)
  go_ret
  exact ⟨rfl, by (repeat (first | with_reducible exact Below.refl _ _ | ((with_reducible refine bl_alloc ?_ ?_); (focus (first | (simp; done) | (simp; omega) | omega))) | ((with_reducible refine bl_set ?_ ?_); (focus (first | (simp; done) | (simp; omega) | omega))) | ((with_reducible refine bl_later ?_ ?_); (focus (first | (simp; done) | (simp; omega) | omega))) | with_reducible refine bl_drew ?_ | with_reducible refine bl_drewN ?_ | ((with_reducible refine bl_step (by assumption) ?_ ?_); (focus (first | (simp; done) | (simp; omega) | omega)))))⟩
theorem c_encoded_Jobs (ji jt jh je ju : Int) (ao : Option Addr) (cap : Nat) (l : List (Int × Int)) (w : World) (yji : inI64 ji) (yjt : inI64 jt) (yjh : inI64 jh) (yje : inI64 je) (yju : inI64 ju) (hl : ReadA dueE w ao l) : Calls Try.prog 97 #[.iface 99 (.agg #[.int .i64 ji, .int .i64 jt, .int .i64 jh, .int .i64 je, .int .i64 ju, .slice ao l.length cap])] w (RetI w 2 (rowJobs ji jt jh je ju l)) := by
  obtain ⟨i0, hi, hz0, hz1, hz2⟩ := info_parts info_int64
  have Hl : Hid (∀ W, Below w.heap.size w W → ReadA dueE W ao l) := fun W hb => hl.below hb
  cases hE : (jobsOk ji jt jh je ju l)
  all_goals
    go_enter Try.func97, Try.ntmps97
    go_wp2_with fail
    rw [run_method_direct (f := 211)]
    rotate_left
    · kernel_rfl
    go_wp2_with fail
    refine (c_Jobs_valid _ _ _ _ _ _ _ _ _ hl).mono ?_
    rintro e w1 ⟨rfl, hb1⟩
    have hs1 := hb1.size
    rw [hE]
    go_wp2_with fail
  · rw [rowJobs_f hE]
    go_ret
    exact ⟨_, _, rfl, owns_nil w1 _ _, hb1⟩
  · have hs : l.length ≤ 1000 := (by simp only [jobsOk, openOk, Bool.and_eq_true, decide_eq_true_eq] at hE; have h7 := hE.2.2.2.2.2.1; omega)
    refine (c_kindOf_Jobs _ _ _ _ _ _ _ _ _).mono ?_
    rintro e w1 ⟨rfl, rfl⟩
    go_wp2_with fail
    rw [run_method_direct (f := 210)]
    rotate_left
    · kernel_rfl
    go_wp2_with fail
    refine (c_Jobs_fields _ _ _ _ _ _ _ _ _ yji yjt yjh yje yju (Hl.out _ (by (repeat (first | with_reducible exact Below.refl _ _ | ((with_reducible refine bl_alloc ?_ ?_); (focus (first | (simp; done) | (simp; omega) | omega))) | ((with_reducible refine bl_set ?_ ?_); (focus (first | (simp; done) | (simp; omega) | omega))) | ((with_reducible refine bl_later ?_ ?_); (focus (first | (simp; done) | (simp; omega) | omega))) | with_reducible refine bl_drew ?_ | with_reducible refine bl_drewN ?_ | ((with_reducible refine bl_step (by assumption) ?_ ?_); (focus (first | (simp; done) | (simp; omega) | omega))))))) hs).mono ?_
    rintro e w2 ⟨a2, c2, rfl, ho2, hb2⟩
    have ho1 := (owns_lit w1 w.heap.size 2 [9] hs1 (by simp) (by simp [inI64]))
    have Ho1 : Hid (IntsO w2 w.heap.size 2 (.slice (some ⟨w1.heap.size, 0, none⟩) [(9 : Int)].length 1) [9]) := ⟨ho1.1, ho1.2.1, owns_below ho1.2.2 hb2⟩
    have Ho2 := Lib.hid ho2.read
    have hz := hb2.size
    clear ho1 ho2
    have Hlf : Hid ((fieldsJobs ji jt jh je ju l).length = 5 + l.length * 2) := by rw [Hid, fieldsJobs, List.length_append, length_flat len_dueNums]; rfl
    go_wp2_with (at_builtin; refine wpList_append_ints rfl _ _ _ rfl w.heap.size 2 i0 Try.underlying22 hi hz0 hz1 hz2 _ _ _ _ [9] (fieldsJobs ji jt jh je ju l) rfl Ho1.out rfl Ho2.out (by have h7 := Hlf.out; simp only [List.length_cons, List.length_nil] at h7 ⊢; omega) (by simp at hz; omega) (fun a3 c3 w3 ho3 hg3 => ?_))
    go_ret
    rw [rowJobs_t hE]
    exact ⟨a3, c3, rfl, ho3, (bl_step hb2 (by simp; omega) (by (repeat (first | with_reducible exact Below.refl _ _ | ((with_reducible refine bl_alloc ?_ ?_); (focus (first | (simp; done) | (simp; omega) | omega))) | ((with_reducible refine bl_set ?_ ?_); (focus (first | (simp; done) | (simp; omega) | omega))) | ((with_reducible refine bl_later ?_ ?_); (focus (first | (simp; done) | (simp; omega) | omega))) | with_reducible refine bl_drew ?_ | with_reducible refine bl_drewN ?_ | ((with_reducible refine bl_step (by assumption) ?_ ?_); (focus (first | (simp; done) | (simp; omega) | omega))))))).grown hg3 (by simp at hz; omega) (by simp [Value.ownBlock]; omega)⟩
theorem c_impl_JobsRow (ji jt jh je ju : Int) (ao : Option Addr) (cap : Nat) (l : List (Int × Int)) (w : World) (yji : inI64 ji) (yjt : inI64 jt) (yjh : inI64 jh) (yje : inI64 je) (yju : inI64 ju) (hl : ReadA dueE w ao l) : Calls Try.prog 78 #[.agg #[.int .i64 ji, .int .i64 jt, .int .i64 jh, .int .i64 je, .int .i64 ju, .slice ao l.length cap]] w (RetI w 2 (rowJobs ji jt jh je ju l)) := by
  go_enter Try.func78, Try.ntmps78
  go_wp2_with fail
  refine (c_encoded_Jobs _ _ _ _ _ _ _ _ _ yji yjt yjh yje yju (hl.below (by (repeat (first | with_reducible exact Below.refl _ _ | ((with_reducible refine bl_alloc ?_ ?_); (focus (first | (simp; done) | (simp; omega) | omega))) | ((with_reducible refine bl_set ?_ ?_); (focus (first | (simp; done) | (simp; omega) | omega))) | ((with_reducible refine bl_later ?_ ?_); (focus (first | (simp; done) | (simp; omega) | omega))) | with_reducible refine bl_drew ?_ | with_reducible refine bl_drewN ?_ | ((with_reducible refine bl_step (by assumption) ?_ ?_); (focus (first | (simp; done) | (simp; omega) | omega)))))))).mono ?_
  rintro e w1 ⟨a1, c1, rfl, ho1, hb1⟩
  go_wp2_with fail
  go_ret
  exact ⟨a1, c1, rfl, ho1.lower (by simp), bl_step hb1 (by simp) (by (repeat (first | with_reducible exact Below.refl _ _ | ((with_reducible refine bl_alloc ?_ ?_); (focus (first | (simp; done) | (simp; omega) | omega))) | ((with_reducible refine bl_set ?_ ?_); (focus (first | (simp; done) | (simp; omega) | omega))) | ((with_reducible refine bl_later ?_ ?_); (focus (first | (simp; done) | (simp; omega) | omega))) | with_reducible refine bl_drew ?_ | with_reducible refine bl_drewN ?_ | ((with_reducible refine bl_step (by assumption) ?_ ?_); (focus (first | (simp; done) | (simp; omega) | omega))))))⟩

end Go.Proofs.Ytpfkfppooeikeaa
