/- Walks of functions of the program, printed by a program of the prover. -/
import Derived.Test.YtpfkfppooeikeaaJobs
import Derived.Test.YtpfkfppooeikeaaJobsS
import Derived.Test.YtpfkfppooeikeaaAcc
import Derived.Test.YtpfkfppooeikeaaOne
import Derived.WalkKit
import Derived.WalkSpells
import Derived.Deep.QuietTactic
import Derived.BigQuiet
import Derived.Deep.Light
import Derived.Lib.Hide
import Derived.Deep.RegionHeld3
namespace Go.Proofs.Ytpfkfppooeikeaa
open Go.ChangeShapes Go.WideShapes Go.ChangeAt Go.RowKit Go.Deep
set_option maxHeartbeats 1600000
set_option maxRecDepth 100000

def dueNums (d : Int × Int) : List Int := [d.1, d.2]
theorem len_dueNums (d : Int × Int) : (dueNums d).length = 2 := rfl
theorem dueNums_ok {d : Int × Int} (h : dueE.ok d) : ∀ x ∈ dueNums d, inI64 x := by
  simp only [dueNums, List.mem_cons, List.not_mem_nil, or_false]
  rintro x (rfl | rfl) <;> simp_all [dueE]
def fieldsJobs (ji jt jh je ju : Int) (l : List (Int × Int)) : List Int := [ji, jt, jh, je, ju] ++ l.flatMap dueNums
def rowJobs (ji jt jh je ju : Int) (l : List (Int × Int)) : List Int := if jobsOk ji jt jh je ju l then [9, ji, jt, jh, je, ju] ++ l.flatMap dueNums else []
theorem rowJobs_t {ji jt jh je ju : Int} {l : List (Int × Int)} (h9 : (jobsOk ji jt jh je ju l) = true) : rowJobs ji jt jh je ju l = [9, ji, jt, jh, je, ju] ++ l.flatMap dueNums := by unfold rowJobs; rw [h9]; rfl
theorem rowJobs_f {ji jt jh je ju : Int} {l : List (Int × Int)} (h9 : (jobsOk ji jt jh je ju l) = false) : rowJobs ji jt jh je ju l = [] := by unfold rowJobs; rw [h9]; rfl
theorem c_Jobs_fields (ji jt jh je ju : Int) (ao : Option Addr) (cap : Nat) (l : List (Int × Int)) (w : World) (yji : inI64 ji) (yjt : inI64 jt) (yjh : inI64 jh) (yje : inI64 je) (yju : inI64 ju) (hl : ReadA dueE w ao l) (hs : l.length ≤ 1000) : Calls Try.prog 210 #[.agg #[.int .i64 ji, .int .i64 jt, .int .i64 jh, .int .i64 je, .int .i64 ju, .slice ao l.length cap]] w (RetI w 2 (fieldsJobs ji jt jh je ju l)) := by
  have hm := hl.2.1
  obtain ⟨i0, hi, hz0, hz1, hz2⟩ := info_parts info_int64
  have Hlen : Hid (∀ k, k ≤ l.length → (accL [ji, jt, jh, je, ju] dueNums l k).length = 5 + k * 2) := fun k hk => by rw [length_accL len_dueNums _ _ hk]; rfl
  have hst := owns_lit (w.alloc (.cells ([.int .i64 ji, .int .i64 jt, .int .i64 jh, .int .i64 je, .int .i64 ju, .slice ao l.length cap] : List Value).toArray 99)) (w.heap.size + 1) 2 [ji, jt, jh, je, ju] (by simp) (by simp) (by simp [yji, yjt, yjh, yje, yju])
  rw [World.size_alloc] at hst
  have Hst := Lib.hid hst
  clear hst
  go_enter Try.func210, Try.ntmps210
  go_wp2
  go_loopw [3, 20] (fun v i wr => ∃ (k : Nat) (ao' : Option Addr) (cap' : Nat), k ≤ l.length ∧ i = .int .i64 k ∧ v = .slice ao' (accL [ji, jt, jh, je, ju] dueNums l k).length cap' ∧ Hid (IntsO wr (w.heap.size + 1) 2 (.slice ao' (accL [ji, jt, jh, je, ju] dueNums l k).length cap') (accL [ji, jt, jh, je, ju] dueNums l k)) ∧ Below w.heap.size w wr) (fun _ i _ => l.length - (intOf i).toNat)
  case atStart => exact ⟨0, _, _, Nat.zero_le _, rfl, by rw [accL_zero]; rfl, by rw [accL_zero]; exact Hst.out, by (repeat (first | with_reducible exact Below.refl _ _ | ((with_reducible refine bl_alloc ?_ ?_); (focus (first | (simp; done) | (simp; omega) | omega))) | ((with_reducible refine bl_set ?_ ?_); (focus (first | (simp; done) | (simp; omega) | omega))) | ((with_reducible refine bl_later ?_ ?_); (focus (first | (simp; done) | (simp; omega) | omega))) | with_reducible refine bl_drew ?_ | with_reducible refine bl_drewN ?_ | ((with_reducible refine bl_step (by assumption) ?_ ?_); (focus (first | (simp; done) | (simp; omega) | omega)))))⟩
  case round =>
    obtain ⟨k, ao', cap', hk, rfl, rfl, Hown, hbel⟩ := hrel
    by_cases hlt : k < l.length
    · obtain ⟨b, off, rfl, hbl, hc⟩ := due_at hl hlt
      have hbw := Nat.lt_of_lt_of_le hbl hbel.size
      have ck0 : _ := (hbel.cell (p := ⟨b, off + k * 2, none⟩) hbl).trans (hc k hlt).1
      have ck1 : _ := (hbel.cell (p := ⟨b, off + k * 2 + 1, none⟩) hbl).trans (hc k hlt).2
      clear hc
      have hsz := hbel.size
      have hlk := Hlen.out k hk
      have hlo := Hown.out.2.2.1
      have Hapart := Lib.hid (own_apart Hown.out)
      have Hok : Hid (inI64 l[k].1 ∧ inI64 l[k].2) := hl.1 _ (List.getElem_mem hlt)
      have Hnok : Hid (∀ x ∈ dueNums l[k], inI64 x) := dueNums_ok (hl.1 _ (List.getElem_mem hlt))
      have Hlit : Hid (∀ A, IntsR ((wr.alloc A).alloc (.cells (([l[k].1, l[k].2] : List Int).map (Value.int .i64)).toArray 2)) (some ⟨wr.heap.size + 1, 0, none⟩) [l[k].1, l[k].2]) := fun A => lit_read wr A 2 [l[k].1, l[k].2] (by simp) Hnok.out
      have hp : (k : Int) < l.length := by omega
      have Hlk := Lib.hid hlk
      clear hlk
      go_wp2_with (at_builtin; refine wpList_append_ints rfl _ _ _ rfl (w.heap.size + 1) 2 i0 Try.underlying22 hi hz0 hz1 hz2 _ _ _ _ (accL [ji, jt, jh, je, ju] dueNums l k) [l[k].1, l[k].2] rfl (Hown.out.below (by (repeat (first | with_reducible exact Below.refl _ _ | ((with_reducible refine bl_alloc ?_ ?_); (focus (first | (simp; done) | (simp; omega) | omega))) | ((with_reducible refine bl_set ?_ ?_); (focus (first | (simp; done) | (simp; omega) | omega))) | ((with_reducible refine bl_later ?_ ?_); (focus (first | (simp; done) | (simp; omega) | omega))) | with_reducible refine bl_drew ?_ | with_reducible refine bl_drewN ?_ | ((with_reducible refine bl_step (by assumption) ?_ ?_); (focus (first | (simp; done) | (simp; omega) | omega))))))) rfl (Hlit.out _) (by have h7 := Hlk.out; simp only [List.length_cons, List.length_nil]; omega) (by simp; omega) (fun a3 c3 w3 ho3 hg3 => ?_))
      have hlk := Hlk.out
      go_roundw
      case rel => exact ⟨k + 1, a3, c3, by omega, by go_num, by rw [accL_succ _ _ _ hlt, List.length_append]; rfl, by rw [accL_succ _ _ _ hlt]; exact ho3, bl_grown hg3 (by have := hbel.size; simp; omega) (fun k hk => Nat.le_trans (by simp) (Hapart.out k hk).1) (by (repeat (first | with_reducible exact Below.refl _ _ | ((with_reducible refine bl_alloc ?_ ?_); (focus (first | (simp; done) | (simp; omega) | omega))) | ((with_reducible refine bl_set ?_ ?_); (focus (first | (simp; done) | (simp; omega) | omega))) | ((with_reducible refine bl_later ?_ ?_); (focus (first | (simp; done) | (simp; omega) | omega))) | with_reducible refine bl_drew ?_ | with_reducible refine bl_drewN ?_ | ((with_reducible refine bl_step (by assumption) ?_ ?_); (focus (first | (simp; done) | (simp; omega) | omega))))))⟩
      case measure => simp [intOf]; omega
    · obtain rfl : k = l.length := by omega
      go_wp2
      go_ret
      exact ⟨_, _, by rw [accL_all]; rfl, by have h9 := Hown.out.lower (lo' := w.heap.size) (by simp); rw [accL_all] at h9; exact h9, hbel⟩

end Go.Proofs.Ytpfkfppooeikeaa
