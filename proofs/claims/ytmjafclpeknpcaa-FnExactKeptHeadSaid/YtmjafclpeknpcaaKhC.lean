/- Texts of the proof, merged: part 3. -/
import Derived.Test.YtmjafclpeknpcaaKhB
import Derived.WalkKit
import Derived.WalkSpells
import Derived.Deep.QuietTactic
import Derived.BigQuiet
import Derived.Deep.Light
import Derived.Lib.Hide
import Derived.IntWalk
import Derived.Test.YtmjafclpeknpcaaNMark
import Derived.Test.YtmjafclpeknpcaaNTo
/- Walks of functions of the program, printed by a program of the prover. -/
namespace Go.Proofs.Ytmjafclpeknpcaa
open Go.ChangeShapes Go.WideShapes Go.ChangeAt Go.RowKit Go.Deep
set_option maxHeartbeats 3200000
set_option maxRecDepth 100000

def headOk (num base time : Int) (l : List MarkT) : Bool := inB base 0 2000 && (inB num 0 base && (inB time 0 1000000 && ((decide (0 < base) || time == 0) && (seenOk l && (lastSeen l == base)))))
def headMid (l : List MarkT) (j : Nat) : List Int := (List.range j).flatMap fun (i : Nat) => [(markOf l ((i : Int) + 2)).2.1, (markOf l ((i : Int) + 2)).2.2]
theorem headMid_succ (l : List MarkT) (j : Nat) : headMid l (j + 1) = headMid l j ++ [(markOf l ((j : Int) + 2)).2.1, (markOf l ((j : Int) + 2)).2.2] := by
  unfold headMid
  rw [List.range_succ, List.flatMap_append]
  simp
def headRow (num base time : Int) (l : List MarkT) : List Int := [num, base, time] ++ headMid l 4 ++ [num, num]
theorem length_headMid (l : List MarkT) (j : Nat) : (headMid l j).length = 2 * j := by
  induction j with
  | zero => rfl
  | succ j ih => rw [headMid_succ, List.length_append, ih]; simp; omega
theorem c_impl_HeadOk (num base time : Int) (ao : Option Addr) (cap : Nat) (l : List MarkT) (w : World) (hl : ReadA markE w ao l) :
    Calls Try.prog 121 #[.agg #[.int .i64 num, .int .i64 base, .int .i64 time, .slice ao l.length cap]] w fun e w' => e = .returned (.bool (headOk num base time l)) ∧ Below w.heap.size w w' := by
  have HL : Hid (∀ V, Below w.heap.size w V → ReadA markE V ao l) := fun V hb => hl.below hb
  clear hl
  cases h1 : inB base 0 2000
  · have HF : Hid (headOk num base time l = false) := by simp [Hid, headOk, *]
    go_enter Try.func121, Try.ntmps121
    go_wp2_with fail
    refine wp_region_later (by kernel_rfl) (by kernel_rfl) ?_
    repeat (first | go_big_quiet_step ((first | (go_at_call 143; exact later_same (c_impl_between _ _ _ _)) | (go_at_call 144; exact later_same (c_impl_TimeOk _ _)) | (go_at_call 159; exact later_call (c_impl_SeenOk _ _ _ _ (HL.out _ (by (repeat (first | with_reducible exact Below.refl _ _ | ((with_reducible refine bl_alloc ?_ ?_); (focus (first | (simp; done) | (simp; omega) | omega))) | ((with_reducible refine bl_set ?_ ?_); (focus (first | (simp; done) | (simp; omega) | omega))) | ((with_reducible refine bl_later ?_ ?_); (focus (first | (simp; done) | (simp; omega) | omega))) | with_reducible refine bl_drew ?_ | with_reducible refine bl_drewN ?_ | ((with_reducible refine bl_step (by assumption) ?_ ?_); (focus (first | (simp; done) | (simp; omega) | omega))))))))) | (go_at_call 160; exact later_call (c_impl_lastSeen _ _ _ _ (HL.out _ (by (repeat (first | with_reducible exact Below.refl _ _ | ((with_reducible refine bl_alloc ?_ ?_); (focus (first | (simp; done) | (simp; omega) | omega))) | ((with_reducible refine bl_set ?_ ?_); (focus (first | (simp; done) | (simp; omega) | omega))) | ((with_reducible refine bl_later ?_ ?_); (focus (first | (simp; done) | (simp; omega) | omega))) | with_reducible refine bl_drew ?_ | with_reducible refine bl_drewN ?_ | ((with_reducible refine bl_step (by assumption) ?_ ?_); (focus (first | (simp; done) | (simp; omega) | omega))))))))))) | quiet_step ((first | (go_at_call 143; exact later_same (c_impl_between _ _ _ _)) | (go_at_call 144; exact later_same (c_impl_TimeOk _ _)) | (go_at_call 159; exact later_call (c_impl_SeenOk _ _ _ _ (HL.out _ (by (repeat (first | with_reducible exact Below.refl _ _ | ((with_reducible refine bl_alloc ?_ ?_); (focus (first | (simp; done) | (simp; omega) | omega))) | ((with_reducible refine bl_set ?_ ?_); (focus (first | (simp; done) | (simp; omega) | omega))) | ((with_reducible refine bl_later ?_ ?_); (focus (first | (simp; done) | (simp; omega) | omega))) | with_reducible refine bl_drew ?_ | with_reducible refine bl_drewN ?_ | ((with_reducible refine bl_step (by assumption) ?_ ?_); (focus (first | (simp; done) | (simp; omega) | omega))))))))) | (go_at_call 160; exact later_call (c_impl_lastSeen _ _ _ _ (HL.out _ (by (repeat (first | with_reducible exact Below.refl _ _ | ((with_reducible refine bl_alloc ?_ ?_); (focus (first | (simp; done) | (simp; omega) | omega))) | ((with_reducible refine bl_set ?_ ?_); (focus (first | (simp; done) | (simp; omega) | omega))) | ((with_reducible refine bl_later ?_ ?_); (focus (first | (simp; done) | (simp; omega) | omega))) | with_reducible refine bl_drew ?_ | with_reducible refine bl_drewN ?_ | ((with_reducible refine bl_step (by assumption) ?_ ?_); (focus (first | (simp; done) | (simp; omega) | omega))))))))))))
    refine wpQuiet_nil ?_
    intro _ hw'
    obtain ⟨x, hw''⟩ := hw'
    subst hw''
    go_wp2_with fail
    go_ret
    exact ⟨by rw [HF.out]; rfl, by (repeat (first | with_reducible exact Below.refl _ _ | ((with_reducible refine bl_alloc ?_ ?_); (focus (first | (simp; done) | (simp; omega) | omega))) | ((with_reducible refine bl_set ?_ ?_); (focus (first | (simp; done) | (simp; omega) | omega))) | ((with_reducible refine bl_later ?_ ?_); (focus (first | (simp; done) | (simp; omega) | omega))) | with_reducible refine bl_drew ?_ | with_reducible refine bl_drewN ?_ | ((with_reducible refine bl_step (by assumption) ?_ ?_); (focus (first | (simp; done) | (simp; omega) | omega)))))⟩
  cases h2 : inB num 0 base
  · have HF : Hid (headOk num base time l = false) := by simp [Hid, headOk, *]
    go_enter Try.func121, Try.ntmps121
    go_wp2_with fail
    refine wp_region_later (by kernel_rfl) (by kernel_rfl) ?_
    repeat (first | go_big_quiet_step ((first | (go_at_call 143; exact later_same (c_impl_between _ _ _ _)) | (go_at_call 144; exact later_same (c_impl_TimeOk _ _)) | (go_at_call 159; exact later_call (c_impl_SeenOk _ _ _ _ (HL.out _ (by (repeat (first | with_reducible exact Below.refl _ _ | ((with_reducible refine bl_alloc ?_ ?_); (focus (first | (simp; done) | (simp; omega) | omega))) | ((with_reducible refine bl_set ?_ ?_); (focus (first | (simp; done) | (simp; omega) | omega))) | ((with_reducible refine bl_later ?_ ?_); (focus (first | (simp; done) | (simp; omega) | omega))) | with_reducible refine bl_drew ?_ | with_reducible refine bl_drewN ?_ | ((with_reducible refine bl_step (by assumption) ?_ ?_); (focus (first | (simp; done) | (simp; omega) | omega))))))))) | (go_at_call 160; exact later_call (c_impl_lastSeen _ _ _ _ (HL.out _ (by (repeat (first | with_reducible exact Below.refl _ _ | ((with_reducible refine bl_alloc ?_ ?_); (focus (first | (simp; done) | (simp; omega) | omega))) | ((with_reducible refine bl_set ?_ ?_); (focus (first | (simp; done) | (simp; omega) | omega))) | ((with_reducible refine bl_later ?_ ?_); (focus (first | (simp; done) | (simp; omega) | omega))) | with_reducible refine bl_drew ?_ | with_reducible refine bl_drewN ?_ | ((with_reducible refine bl_step (by assumption) ?_ ?_); (focus (first | (simp; done) | (simp; omega) | omega))))))))))) | quiet_step ((first | (go_at_call 143; exact later_same (c_impl_between _ _ _ _)) | (go_at_call 144; exact later_same (c_impl_TimeOk _ _)) | (go_at_call 159; exact later_call (c_impl_SeenOk _ _ _ _ (HL.out _ (by (repeat (first | with_reducible exact Below.refl _ _ | ((with_reducible refine bl_alloc ?_ ?_); (focus (first | (simp; done) | (simp; omega) | omega))) | ((with_reducible refine bl_set ?_ ?_); (focus (first | (simp; done) | (simp; omega) | omega))) | ((with_reducible refine bl_later ?_ ?_); (focus (first | (simp; done) | (simp; omega) | omega))) | with_reducible refine bl_drew ?_ | with_reducible refine bl_drewN ?_ | ((with_reducible refine bl_step (by assumption) ?_ ?_); (focus (first | (simp; done) | (simp; omega) | omega))))))))) | (go_at_call 160; exact later_call (c_impl_lastSeen _ _ _ _ (HL.out _ (by (repeat (first | with_reducible exact Below.refl _ _ | ((with_reducible refine bl_alloc ?_ ?_); (focus (first | (simp; done) | (simp; omega) | omega))) | ((with_reducible refine bl_set ?_ ?_); (focus (first | (simp; done) | (simp; omega) | omega))) | ((with_reducible refine bl_later ?_ ?_); (focus (first | (simp; done) | (simp; omega) | omega))) | with_reducible refine bl_drew ?_ | with_reducible refine bl_drewN ?_ | ((with_reducible refine bl_step (by assumption) ?_ ?_); (focus (first | (simp; done) | (simp; omega) | omega))))))))))))
    refine wpQuiet_nil ?_
    intro _ hw'
    obtain ⟨x, hw''⟩ := hw'
    subst hw''
    go_wp2_with fail
    go_ret
    exact ⟨by rw [HF.out]; rfl, by (repeat (first | with_reducible exact Below.refl _ _ | ((with_reducible refine bl_alloc ?_ ?_); (focus (first | (simp; done) | (simp; omega) | omega))) | ((with_reducible refine bl_set ?_ ?_); (focus (first | (simp; done) | (simp; omega) | omega))) | ((with_reducible refine bl_later ?_ ?_); (focus (first | (simp; done) | (simp; omega) | omega))) | with_reducible refine bl_drew ?_ | with_reducible refine bl_drewN ?_ | ((with_reducible refine bl_step (by assumption) ?_ ?_); (focus (first | (simp; done) | (simp; omega) | omega)))))⟩
  cases h3 : inB time 0 1000000
  · have HF : Hid (headOk num base time l = false) := by simp [Hid, headOk, *]
    go_enter Try.func121, Try.ntmps121
    go_wp2_with fail
    refine wp_region_later (by kernel_rfl) (by kernel_rfl) ?_
    repeat (first | go_big_quiet_step ((first | (go_at_call 143; exact later_same (c_impl_between _ _ _ _)) | (go_at_call 144; exact later_same (c_impl_TimeOk _ _)) | (go_at_call 159; exact later_call (c_impl_SeenOk _ _ _ _ (HL.out _ (by (repeat (first | with_reducible exact Below.refl _ _ | ((with_reducible refine bl_alloc ?_ ?_); (focus (first | (simp; done) | (simp; omega) | omega))) | ((with_reducible refine bl_set ?_ ?_); (focus (first | (simp; done) | (simp; omega) | omega))) | ((with_reducible refine bl_later ?_ ?_); (focus (first | (simp; done) | (simp; omega) | omega))) | with_reducible refine bl_drew ?_ | with_reducible refine bl_drewN ?_ | ((with_reducible refine bl_step (by assumption) ?_ ?_); (focus (first | (simp; done) | (simp; omega) | omega))))))))) | (go_at_call 160; exact later_call (c_impl_lastSeen _ _ _ _ (HL.out _ (by (repeat (first | with_reducible exact Below.refl _ _ | ((with_reducible refine bl_alloc ?_ ?_); (focus (first | (simp; done) | (simp; omega) | omega))) | ((with_reducible refine bl_set ?_ ?_); (focus (first | (simp; done) | (simp; omega) | omega))) | ((with_reducible refine bl_later ?_ ?_); (focus (first | (simp; done) | (simp; omega) | omega))) | with_reducible refine bl_drew ?_ | with_reducible refine bl_drewN ?_ | ((with_reducible refine bl_step (by assumption) ?_ ?_); (focus (first | (simp; done) | (simp; omega) | omega))))))))))) | quiet_step ((first | (go_at_call 143; exact later_same (c_impl_between _ _ _ _)) | (go_at_call 144; exact later_same (c_impl_TimeOk _ _)) | (go_at_call 159; exact later_call (c_impl_SeenOk _ _ _ _ (HL.out _ (by (repeat (first | with_reducible exact Below.refl _ _ | ((with_reducible refine bl_alloc ?_ ?_); (focus (first | (simp; done) | (simp; omega) | omega))) | ((with_reducible refine bl_set ?_ ?_); (focus (first | (simp; done) | (simp; omega) | omega))) | ((with_reducible refine bl_later ?_ ?_); (focus (first | (simp; done) | (simp; omega) | omega))) | with_reducible refine bl_drew ?_ | with_reducible refine bl_drewN ?_ | ((with_reducible refine bl_step (by assumption) ?_ ?_); (focus (first | (simp; done) | (simp; omega) | omega))))))))) | (go_at_call 160; exact later_call (c_impl_lastSeen _ _ _ _ (HL.out _ (by (repeat (first | with_reducible exact Below.refl _ _ | ((with_reducible refine bl_alloc ?_ ?_); (focus (first | (simp; done) | (simp; omega) | omega))) | ((with_reducible refine bl_set ?_ ?_); (focus (first | (simp; done) | (simp; omega) | omega))) | ((with_reducible refine bl_later ?_ ?_); (focus (first | (simp; done) | (simp; omega) | omega))) | with_reducible refine bl_drew ?_ | with_reducible refine bl_drewN ?_ | ((with_reducible refine bl_step (by assumption) ?_ ?_); (focus (first | (simp; done) | (simp; omega) | omega))))))))))))
    refine wpQuiet_nil ?_
    intro _ hw'
    obtain ⟨x, hw''⟩ := hw'
    subst hw''
    go_wp2_with fail
    go_ret
    exact ⟨by rw [HF.out]; rfl, by (repeat (first | with_reducible exact Below.refl _ _ | ((with_reducible refine bl_alloc ?_ ?_); (focus (first | (simp; done) | (simp; omega) | omega))) | ((with_reducible refine bl_set ?_ ?_); (focus (first | (simp; done) | (simp; omega) | omega))) | ((with_reducible refine bl_later ?_ ?_); (focus (first | (simp; done) | (simp; omega) | omega))) | with_reducible refine bl_drew ?_ | with_reducible refine bl_drewN ?_ | ((with_reducible refine bl_step (by assumption) ?_ ?_); (focus (first | (simp; done) | (simp; omega) | omega)))))⟩
  by_cases h4 : 0 < base
  · have h4b : decide (0 < base) = true := decide_eq_true h4
    cases h5 : seenOk l
    · have HF : Hid (headOk num base time l = false) := by simp [Hid, headOk, *]
      go_enter Try.func121, Try.ntmps121
      go_wp2_with fail
      refine wp_region_later (by kernel_rfl) (by kernel_rfl) ?_
      repeat (first | go_big_quiet_step ((first | (go_at_call 143; exact later_same (c_impl_between _ _ _ _)) | (go_at_call 144; exact later_same (c_impl_TimeOk _ _)) | (go_at_call 159; exact later_call (c_impl_SeenOk _ _ _ _ (HL.out _ (by (repeat (first | with_reducible exact Below.refl _ _ | ((with_reducible refine bl_alloc ?_ ?_); (focus (first | (simp; done) | (simp; omega) | omega))) | ((with_reducible refine bl_set ?_ ?_); (focus (first | (simp; done) | (simp; omega) | omega))) | ((with_reducible refine bl_later ?_ ?_); (focus (first | (simp; done) | (simp; omega) | omega))) | with_reducible refine bl_drew ?_ | with_reducible refine bl_drewN ?_ | ((with_reducible refine bl_step (by assumption) ?_ ?_); (focus (first | (simp; done) | (simp; omega) | omega))))))))) | (go_at_call 160; exact later_call (c_impl_lastSeen _ _ _ _ (HL.out _ (by (repeat (first | with_reducible exact Below.refl _ _ | ((with_reducible refine bl_alloc ?_ ?_); (focus (first | (simp; done) | (simp; omega) | omega))) | ((with_reducible refine bl_set ?_ ?_); (focus (first | (simp; done) | (simp; omega) | omega))) | ((with_reducible refine bl_later ?_ ?_); (focus (first | (simp; done) | (simp; omega) | omega))) | with_reducible refine bl_drew ?_ | with_reducible refine bl_drewN ?_ | ((with_reducible refine bl_step (by assumption) ?_ ?_); (focus (first | (simp; done) | (simp; omega) | omega))))))))))) | quiet_step ((first | (go_at_call 143; exact later_same (c_impl_between _ _ _ _)) | (go_at_call 144; exact later_same (c_impl_TimeOk _ _)) | (go_at_call 159; exact later_call (c_impl_SeenOk _ _ _ _ (HL.out _ (by (repeat (first | with_reducible exact Below.refl _ _ | ((with_reducible refine bl_alloc ?_ ?_); (focus (first | (simp; done) | (simp; omega) | omega))) | ((with_reducible refine bl_set ?_ ?_); (focus (first | (simp; done) | (simp; omega) | omega))) | ((with_reducible refine bl_later ?_ ?_); (focus (first | (simp; done) | (simp; omega) | omega))) | with_reducible refine bl_drew ?_ | with_reducible refine bl_drewN ?_ | ((with_reducible refine bl_step (by assumption) ?_ ?_); (focus (first | (simp; done) | (simp; omega) | omega))))))))) | (go_at_call 160; exact later_call (c_impl_lastSeen _ _ _ _ (HL.out _ (by (repeat (first | with_reducible exact Below.refl _ _ | ((with_reducible refine bl_alloc ?_ ?_); (focus (first | (simp; done) | (simp; omega) | omega))) | ((with_reducible refine bl_set ?_ ?_); (focus (first | (simp; done) | (simp; omega) | omega))) | ((with_reducible refine bl_later ?_ ?_); (focus (first | (simp; done) | (simp; omega) | omega))) | with_reducible refine bl_drew ?_ | with_reducible refine bl_drewN ?_ | ((with_reducible refine bl_step (by assumption) ?_ ?_); (focus (first | (simp; done) | (simp; omega) | omega))))))))))))
      refine wpQuiet_nil ?_
      intro _ hw'
      obtain ⟨x, hw''⟩ := hw'
      subst hw''
      go_wp2_with fail
      go_ret
      exact ⟨by rw [HF.out]; rfl, by (repeat (first | with_reducible exact Below.refl _ _ | ((with_reducible refine bl_alloc ?_ ?_); (focus (first | (simp; done) | (simp; omega) | omega))) | ((with_reducible refine bl_set ?_ ?_); (focus (first | (simp; done) | (simp; omega) | omega))) | ((with_reducible refine bl_later ?_ ?_); (focus (first | (simp; done) | (simp; omega) | omega))) | with_reducible refine bl_drew ?_ | with_reducible refine bl_drewN ?_ | ((with_reducible refine bl_step (by assumption) ?_ ?_); (focus (first | (simp; done) | (simp; omega) | omega)))))⟩
    · have HSo := Lib.hid h5
      cases h6 : (lastSeen l == base)
      · have HF : Hid (headOk num base time l = false) := by simp [Hid, headOk, *]
        go_enter Try.func121, Try.ntmps121
        go_wp2_with fail
        refine wp_region_later (by kernel_rfl) (by kernel_rfl) ?_
        repeat (first | go_big_quiet_step ((first | (go_at_call 143; exact later_same (c_impl_between _ _ _ _)) | (go_at_call 144; exact later_same (c_impl_TimeOk _ _)) | (go_at_call 159; exact later_call (c_impl_SeenOk _ _ _ _ (HL.out _ (by (repeat (first | with_reducible exact Below.refl _ _ | ((with_reducible refine bl_alloc ?_ ?_); (focus (first | (simp; done) | (simp; omega) | omega))) | ((with_reducible refine bl_set ?_ ?_); (focus (first | (simp; done) | (simp; omega) | omega))) | ((with_reducible refine bl_later ?_ ?_); (focus (first | (simp; done) | (simp; omega) | omega))) | with_reducible refine bl_drew ?_ | with_reducible refine bl_drewN ?_ | ((with_reducible refine bl_step (by assumption) ?_ ?_); (focus (first | (simp; done) | (simp; omega) | omega))))))))) | (go_at_call 160; exact later_call (c_impl_lastSeen _ _ _ _ (HL.out _ (by (repeat (first | with_reducible exact Below.refl _ _ | ((with_reducible refine bl_alloc ?_ ?_); (focus (first | (simp; done) | (simp; omega) | omega))) | ((with_reducible refine bl_set ?_ ?_); (focus (first | (simp; done) | (simp; omega) | omega))) | ((with_reducible refine bl_later ?_ ?_); (focus (first | (simp; done) | (simp; omega) | omega))) | with_reducible refine bl_drew ?_ | with_reducible refine bl_drewN ?_ | ((with_reducible refine bl_step (by assumption) ?_ ?_); (focus (first | (simp; done) | (simp; omega) | omega))))))))))) | quiet_step ((first | (go_at_call 143; exact later_same (c_impl_between _ _ _ _)) | (go_at_call 144; exact later_same (c_impl_TimeOk _ _)) | (go_at_call 159; exact later_call (c_impl_SeenOk _ _ _ _ (HL.out _ (by (repeat (first | with_reducible exact Below.refl _ _ | ((with_reducible refine bl_alloc ?_ ?_); (focus (first | (simp; done) | (simp; omega) | omega))) | ((with_reducible refine bl_set ?_ ?_); (focus (first | (simp; done) | (simp; omega) | omega))) | ((with_reducible refine bl_later ?_ ?_); (focus (first | (simp; done) | (simp; omega) | omega))) | with_reducible refine bl_drew ?_ | with_reducible refine bl_drewN ?_ | ((with_reducible refine bl_step (by assumption) ?_ ?_); (focus (first | (simp; done) | (simp; omega) | omega))))))))) | (go_at_call 160; exact later_call (c_impl_lastSeen _ _ _ _ (HL.out _ (by (repeat (first | with_reducible exact Below.refl _ _ | ((with_reducible refine bl_alloc ?_ ?_); (focus (first | (simp; done) | (simp; omega) | omega))) | ((with_reducible refine bl_set ?_ ?_); (focus (first | (simp; done) | (simp; omega) | omega))) | ((with_reducible refine bl_later ?_ ?_); (focus (first | (simp; done) | (simp; omega) | omega))) | with_reducible refine bl_drew ?_ | with_reducible refine bl_drewN ?_ | ((with_reducible refine bl_step (by assumption) ?_ ?_); (focus (first | (simp; done) | (simp; omega) | omega))))))))))))
        refine wpQuiet_nil ?_
        intro _ hw'
        obtain ⟨x, hw''⟩ := hw'
        subst hw''
        go_wp2_with fail
        go_ret
        exact ⟨by rw [HF.out]; rfl, by (repeat (first | with_reducible exact Below.refl _ _ | ((with_reducible refine bl_alloc ?_ ?_); (focus (first | (simp; done) | (simp; omega) | omega))) | ((with_reducible refine bl_set ?_ ?_); (focus (first | (simp; done) | (simp; omega) | omega))) | ((with_reducible refine bl_later ?_ ?_); (focus (first | (simp; done) | (simp; omega) | omega))) | with_reducible refine bl_drew ?_ | with_reducible refine bl_drewN ?_ | ((with_reducible refine bl_step (by assumption) ?_ ?_); (focus (first | (simp; done) | (simp; omega) | omega)))))⟩
      · have HF : Hid (headOk num base time l = true) := by simp [Hid, headOk, *]
        go_enter Try.func121, Try.ntmps121
        go_wp2_with fail
        refine wp_region_later (by kernel_rfl) (by kernel_rfl) ?_
        repeat (first | go_big_quiet_step ((first | (go_at_call 143; exact later_same (c_impl_between _ _ _ _)) | (go_at_call 144; exact later_same (c_impl_TimeOk _ _)) | (go_at_call 159; exact later_call (c_impl_SeenOk _ _ _ _ (HL.out _ (by (repeat (first | with_reducible exact Below.refl _ _ | ((with_reducible refine bl_alloc ?_ ?_); (focus (first | (simp; done) | (simp; omega) | omega))) | ((with_reducible refine bl_set ?_ ?_); (focus (first | (simp; done) | (simp; omega) | omega))) | ((with_reducible refine bl_later ?_ ?_); (focus (first | (simp; done) | (simp; omega) | omega))) | with_reducible refine bl_drew ?_ | with_reducible refine bl_drewN ?_ | ((with_reducible refine bl_step (by assumption) ?_ ?_); (focus (first | (simp; done) | (simp; omega) | omega))))))))) | (go_at_call 160; exact later_call (c_impl_lastSeen _ _ _ _ (HL.out _ (by (repeat (first | with_reducible exact Below.refl _ _ | ((with_reducible refine bl_alloc ?_ ?_); (focus (first | (simp; done) | (simp; omega) | omega))) | ((with_reducible refine bl_set ?_ ?_); (focus (first | (simp; done) | (simp; omega) | omega))) | ((with_reducible refine bl_later ?_ ?_); (focus (first | (simp; done) | (simp; omega) | omega))) | with_reducible refine bl_drew ?_ | with_reducible refine bl_drewN ?_ | ((with_reducible refine bl_step (by assumption) ?_ ?_); (focus (first | (simp; done) | (simp; omega) | omega))))))))))) | quiet_step ((first | (go_at_call 143; exact later_same (c_impl_between _ _ _ _)) | (go_at_call 144; exact later_same (c_impl_TimeOk _ _)) | (go_at_call 159; exact later_call (c_impl_SeenOk _ _ _ _ (HL.out _ (by (repeat (first | with_reducible exact Below.refl _ _ | ((with_reducible refine bl_alloc ?_ ?_); (focus (first | (simp; done) | (simp; omega) | omega))) | ((with_reducible refine bl_set ?_ ?_); (focus (first | (simp; done) | (simp; omega) | omega))) | ((with_reducible refine bl_later ?_ ?_); (focus (first | (simp; done) | (simp; omega) | omega))) | with_reducible refine bl_drew ?_ | with_reducible refine bl_drewN ?_ | ((with_reducible refine bl_step (by assumption) ?_ ?_); (focus (first | (simp; done) | (simp; omega) | omega))))))))) | (go_at_call 160; exact later_call (c_impl_lastSeen _ _ _ _ (HL.out _ (by (repeat (first | with_reducible exact Below.refl _ _ | ((with_reducible refine bl_alloc ?_ ?_); (focus (first | (simp; done) | (simp; omega) | omega))) | ((with_reducible refine bl_set ?_ ?_); (focus (first | (simp; done) | (simp; omega) | omega))) | ((with_reducible refine bl_later ?_ ?_); (focus (first | (simp; done) | (simp; omega) | omega))) | with_reducible refine bl_drew ?_ | with_reducible refine bl_drewN ?_ | ((with_reducible refine bl_step (by assumption) ?_ ?_); (focus (first | (simp; done) | (simp; omega) | omega))))))))))))
        refine wpQuiet_nil ?_
        intro _ hw'
        obtain ⟨x, hw''⟩ := hw'
        subst hw''
        go_wp2_with fail
        go_ret
        exact ⟨by rw [HF.out]; rfl, by (repeat (first | with_reducible exact Below.refl _ _ | ((with_reducible refine bl_alloc ?_ ?_); (focus (first | (simp; done) | (simp; omega) | omega))) | ((with_reducible refine bl_set ?_ ?_); (focus (first | (simp; done) | (simp; omega) | omega))) | ((with_reducible refine bl_later ?_ ?_); (focus (first | (simp; done) | (simp; omega) | omega))) | with_reducible refine bl_drew ?_ | with_reducible refine bl_drewN ?_ | ((with_reducible refine bl_step (by assumption) ?_ ?_); (focus (first | (simp; done) | (simp; omega) | omega)))))⟩
  · have h4b : decide (0 < base) = false := decide_eq_false h4
    cases h7 : (time == 0)
    · have HF : Hid (headOk num base time l = false) := by simp [Hid, headOk, *]
      go_enter Try.func121, Try.ntmps121
      go_wp2_with fail
      refine wp_region_later (by kernel_rfl) (by kernel_rfl) ?_
      repeat (first | go_big_quiet_step ((first | (go_at_call 143; exact later_same (c_impl_between _ _ _ _)) | (go_at_call 144; exact later_same (c_impl_TimeOk _ _)) | (go_at_call 159; exact later_call (c_impl_SeenOk _ _ _ _ (HL.out _ (by (repeat (first | with_reducible exact Below.refl _ _ | ((with_reducible refine bl_alloc ?_ ?_); (focus (first | (simp; done) | (simp; omega) | omega))) | ((with_reducible refine bl_set ?_ ?_); (focus (first | (simp; done) | (simp; omega) | omega))) | ((with_reducible refine bl_later ?_ ?_); (focus (first | (simp; done) | (simp; omega) | omega))) | with_reducible refine bl_drew ?_ | with_reducible refine bl_drewN ?_ | ((with_reducible refine bl_step (by assumption) ?_ ?_); (focus (first | (simp; done) | (simp; omega) | omega))))))))) | (go_at_call 160; exact later_call (c_impl_lastSeen _ _ _ _ (HL.out _ (by (repeat (first | with_reducible exact Below.refl _ _ | ((with_reducible refine bl_alloc ?_ ?_); (focus (first | (simp; done) | (simp; omega) | omega))) | ((with_reducible refine bl_set ?_ ?_); (focus (first | (simp; done) | (simp; omega) | omega))) | ((with_reducible refine bl_later ?_ ?_); (focus (first | (simp; done) | (simp; omega) | omega))) | with_reducible refine bl_drew ?_ | with_reducible refine bl_drewN ?_ | ((with_reducible refine bl_step (by assumption) ?_ ?_); (focus (first | (simp; done) | (simp; omega) | omega))))))))))) | quiet_step ((first | (go_at_call 143; exact later_same (c_impl_between _ _ _ _)) | (go_at_call 144; exact later_same (c_impl_TimeOk _ _)) | (go_at_call 159; exact later_call (c_impl_SeenOk _ _ _ _ (HL.out _ (by (repeat (first | with_reducible exact Below.refl _ _ | ((with_reducible refine bl_alloc ?_ ?_); (focus (first | (simp; done) | (simp; omega) | omega))) | ((with_reducible refine bl_set ?_ ?_); (focus (first | (simp; done) | (simp; omega) | omega))) | ((with_reducible refine bl_later ?_ ?_); (focus (first | (simp; done) | (simp; omega) | omega))) | with_reducible refine bl_drew ?_ | with_reducible refine bl_drewN ?_ | ((with_reducible refine bl_step (by assumption) ?_ ?_); (focus (first | (simp; done) | (simp; omega) | omega))))))))) | (go_at_call 160; exact later_call (c_impl_lastSeen _ _ _ _ (HL.out _ (by (repeat (first | with_reducible exact Below.refl _ _ | ((with_reducible refine bl_alloc ?_ ?_); (focus (first | (simp; done) | (simp; omega) | omega))) | ((with_reducible refine bl_set ?_ ?_); (focus (first | (simp; done) | (simp; omega) | omega))) | ((with_reducible refine bl_later ?_ ?_); (focus (first | (simp; done) | (simp; omega) | omega))) | with_reducible refine bl_drew ?_ | with_reducible refine bl_drewN ?_ | ((with_reducible refine bl_step (by assumption) ?_ ?_); (focus (first | (simp; done) | (simp; omega) | omega))))))))))))
      refine wpQuiet_nil ?_
      intro _ hw'
      obtain ⟨x, hw''⟩ := hw'
      subst hw''
      go_wp2_with fail
      go_ret
      exact ⟨by rw [HF.out]; rfl, by (repeat (first | with_reducible exact Below.refl _ _ | ((with_reducible refine bl_alloc ?_ ?_); (focus (first | (simp; done) | (simp; omega) | omega))) | ((with_reducible refine bl_set ?_ ?_); (focus (first | (simp; done) | (simp; omega) | omega))) | ((with_reducible refine bl_later ?_ ?_); (focus (first | (simp; done) | (simp; omega) | omega))) | with_reducible refine bl_drew ?_ | with_reducible refine bl_drewN ?_ | ((with_reducible refine bl_step (by assumption) ?_ ?_); (focus (first | (simp; done) | (simp; omega) | omega)))))⟩
    · cases h5 : seenOk l
      · have HF : Hid (headOk num base time l = false) := by simp [Hid, headOk, *]
        go_enter Try.func121, Try.ntmps121
        go_wp2_with fail
        refine wp_region_later (by kernel_rfl) (by kernel_rfl) ?_
        repeat (first | go_big_quiet_step ((first | (go_at_call 143; exact later_same (c_impl_between _ _ _ _)) | (go_at_call 144; exact later_same (c_impl_TimeOk _ _)) | (go_at_call 159; exact later_call (c_impl_SeenOk _ _ _ _ (HL.out _ (by (repeat (first | with_reducible exact Below.refl _ _ | ((with_reducible refine bl_alloc ?_ ?_); (focus (first | (simp; done) | (simp; omega) | omega))) | ((with_reducible refine bl_set ?_ ?_); (focus (first | (simp; done) | (simp; omega) | omega))) | ((with_reducible refine bl_later ?_ ?_); (focus (first | (simp; done) | (simp; omega) | omega))) | with_reducible refine bl_drew ?_ | with_reducible refine bl_drewN ?_ | ((with_reducible refine bl_step (by assumption) ?_ ?_); (focus (first | (simp; done) | (simp; omega) | omega))))))))) | (go_at_call 160; exact later_call (c_impl_lastSeen _ _ _ _ (HL.out _ (by (repeat (first | with_reducible exact Below.refl _ _ | ((with_reducible refine bl_alloc ?_ ?_); (focus (first | (simp; done) | (simp; omega) | omega))) | ((with_reducible refine bl_set ?_ ?_); (focus (first | (simp; done) | (simp; omega) | omega))) | ((with_reducible refine bl_later ?_ ?_); (focus (first | (simp; done) | (simp; omega) | omega))) | with_reducible refine bl_drew ?_ | with_reducible refine bl_drewN ?_ | ((with_reducible refine bl_step (by assumption) ?_ ?_); (focus (first | (simp; done) | (simp; omega) | omega))))))))))) | quiet_step ((first | (go_at_call 143; exact later_same (c_impl_between _ _ _ _)) | (go_at_call 144; exact later_same (c_impl_TimeOk _ _)) | (go_at_call 159; exact later_call (c_impl_SeenOk _ _ _ _ (HL.out _ (by (repeat (first | with_reducible exact Below.refl _ _ | ((with_reducible refine bl_alloc ?_ ?_); (focus (first | (simp; done) | (simp; omega) | omega))) | ((with_reducible refine bl_set ?_ ?_); (focus (first | (simp; done) | (simp; omega) | omega))) | ((with_reducible refine bl_later ?_ ?_); (focus (first | (simp; done) | (simp; omega) | omega))) | with_reducible refine bl_drew ?_ | with_reducible refine bl_drewN ?_ | ((with_reducible refine bl_step (by assumption) ?_ ?_); (focus (first | (simp; done) | (simp; omega) | omega))))))))) | (go_at_call 160; exact later_call (c_impl_lastSeen _ _ _ _ (HL.out _ (by (repeat (first | with_reducible exact Below.refl _ _ | ((with_reducible refine bl_alloc ?_ ?_); (focus (first | (simp; done) | (simp; omega) | omega))) | ((with_reducible refine bl_set ?_ ?_); (focus (first | (simp; done) | (simp; omega) | omega))) | ((with_reducible refine bl_later ?_ ?_); (focus (first | (simp; done) | (simp; omega) | omega))) | with_reducible refine bl_drew ?_ | with_reducible refine bl_drewN ?_ | ((with_reducible refine bl_step (by assumption) ?_ ?_); (focus (first | (simp; done) | (simp; omega) | omega))))))))))))
        refine wpQuiet_nil ?_
        intro _ hw'
        obtain ⟨x, hw''⟩ := hw'
        subst hw''
        go_wp2_with fail
        go_ret
        exact ⟨by rw [HF.out]; rfl, by (repeat (first | with_reducible exact Below.refl _ _ | ((with_reducible refine bl_alloc ?_ ?_); (focus (first | (simp; done) | (simp; omega) | omega))) | ((with_reducible refine bl_set ?_ ?_); (focus (first | (simp; done) | (simp; omega) | omega))) | ((with_reducible refine bl_later ?_ ?_); (focus (first | (simp; done) | (simp; omega) | omega))) | with_reducible refine bl_drew ?_ | with_reducible refine bl_drewN ?_ | ((with_reducible refine bl_step (by assumption) ?_ ?_); (focus (first | (simp; done) | (simp; omega) | omega)))))⟩
      · have HSo := Lib.hid h5
        cases h6 : (lastSeen l == base)
        · have HF : Hid (headOk num base time l = false) := by simp [Hid, headOk, *]
          go_enter Try.func121, Try.ntmps121
          go_wp2_with fail
          refine wp_region_later (by kernel_rfl) (by kernel_rfl) ?_
          repeat (first | go_big_quiet_step ((first | (go_at_call 143; exact later_same (c_impl_between _ _ _ _)) | (go_at_call 144; exact later_same (c_impl_TimeOk _ _)) | (go_at_call 159; exact later_call (c_impl_SeenOk _ _ _ _ (HL.out _ (by (repeat (first | with_reducible exact Below.refl _ _ | ((with_reducible refine bl_alloc ?_ ?_); (focus (first | (simp; done) | (simp; omega) | omega))) | ((with_reducible refine bl_set ?_ ?_); (focus (first | (simp; done) | (simp; omega) | omega))) | ((with_reducible refine bl_later ?_ ?_); (focus (first | (simp; done) | (simp; omega) | omega))) | with_reducible refine bl_drew ?_ | with_reducible refine bl_drewN ?_ | ((with_reducible refine bl_step (by assumption) ?_ ?_); (focus (first | (simp; done) | (simp; omega) | omega))))))))) | (go_at_call 160; exact later_call (c_impl_lastSeen _ _ _ _ (HL.out _ (by (repeat (first | with_reducible exact Below.refl _ _ | ((with_reducible refine bl_alloc ?_ ?_); (focus (first | (simp; done) | (simp; omega) | omega))) | ((with_reducible refine bl_set ?_ ?_); (focus (first | (simp; done) | (simp; omega) | omega))) | ((with_reducible refine bl_later ?_ ?_); (focus (first | (simp; done) | (simp; omega) | omega))) | with_reducible refine bl_drew ?_ | with_reducible refine bl_drewN ?_ | ((with_reducible refine bl_step (by assumption) ?_ ?_); (focus (first | (simp; done) | (simp; omega) | omega))))))))))) | quiet_step ((first | (go_at_call 143; exact later_same (c_impl_between _ _ _ _)) | (go_at_call 144; exact later_same (c_impl_TimeOk _ _)) | (go_at_call 159; exact later_call (c_impl_SeenOk _ _ _ _ (HL.out _ (by (repeat (first | with_reducible exact Below.refl _ _ | ((with_reducible refine bl_alloc ?_ ?_); (focus (first | (simp; done) | (simp; omega) | omega))) | ((with_reducible refine bl_set ?_ ?_); (focus (first | (simp; done) | (simp; omega) | omega))) | ((with_reducible refine bl_later ?_ ?_); (focus (first | (simp; done) | (simp; omega) | omega))) | with_reducible refine bl_drew ?_ | with_reducible refine bl_drewN ?_ | ((with_reducible refine bl_step (by assumption) ?_ ?_); (focus (first | (simp; done) | (simp; omega) | omega))))))))) | (go_at_call 160; exact later_call (c_impl_lastSeen _ _ _ _ (HL.out _ (by (repeat (first | with_reducible exact Below.refl _ _ | ((with_reducible refine bl_alloc ?_ ?_); (focus (first | (simp; done) | (simp; omega) | omega))) | ((with_reducible refine bl_set ?_ ?_); (focus (first | (simp; done) | (simp; omega) | omega))) | ((with_reducible refine bl_later ?_ ?_); (focus (first | (simp; done) | (simp; omega) | omega))) | with_reducible refine bl_drew ?_ | with_reducible refine bl_drewN ?_ | ((with_reducible refine bl_step (by assumption) ?_ ?_); (focus (first | (simp; done) | (simp; omega) | omega))))))))))))
          refine wpQuiet_nil ?_
          intro _ hw'
          obtain ⟨x, hw''⟩ := hw'
          subst hw''
          go_wp2_with fail
          go_ret
          exact ⟨by rw [HF.out]; rfl, by (repeat (first | with_reducible exact Below.refl _ _ | ((with_reducible refine bl_alloc ?_ ?_); (focus (first | (simp; done) | (simp; omega) | omega))) | ((with_reducible refine bl_set ?_ ?_); (focus (first | (simp; done) | (simp; omega) | omega))) | ((with_reducible refine bl_later ?_ ?_); (focus (first | (simp; done) | (simp; omega) | omega))) | with_reducible refine bl_drew ?_ | with_reducible refine bl_drewN ?_ | ((with_reducible refine bl_step (by assumption) ?_ ?_); (focus (first | (simp; done) | (simp; omega) | omega)))))⟩
        · have HF : Hid (headOk num base time l = true) := by simp [Hid, headOk, *]
          go_enter Try.func121, Try.ntmps121
          go_wp2_with fail
          refine wp_region_later (by kernel_rfl) (by kernel_rfl) ?_
          repeat (first | go_big_quiet_step ((first | (go_at_call 143; exact later_same (c_impl_between _ _ _ _)) | (go_at_call 144; exact later_same (c_impl_TimeOk _ _)) | (go_at_call 159; exact later_call (c_impl_SeenOk _ _ _ _ (HL.out _ (by (repeat (first | with_reducible exact Below.refl _ _ | ((with_reducible refine bl_alloc ?_ ?_); (focus (first | (simp; done) | (simp; omega) | omega))) | ((with_reducible refine bl_set ?_ ?_); (focus (first | (simp; done) | (simp; omega) | omega))) | ((with_reducible refine bl_later ?_ ?_); (focus (first | (simp; done) | (simp; omega) | omega))) | with_reducible refine bl_drew ?_ | with_reducible refine bl_drewN ?_ | ((with_reducible refine bl_step (by assumption) ?_ ?_); (focus (first | (simp; done) | (simp; omega) | omega))))))))) | (go_at_call 160; exact later_call (c_impl_lastSeen _ _ _ _ (HL.out _ (by (repeat (first | with_reducible exact Below.refl _ _ | ((with_reducible refine bl_alloc ?_ ?_); (focus (first | (simp; done) | (simp; omega) | omega))) | ((with_reducible refine bl_set ?_ ?_); (focus (first | (simp; done) | (simp; omega) | omega))) | ((with_reducible refine bl_later ?_ ?_); (focus (first | (simp; done) | (simp; omega) | omega))) | with_reducible refine bl_drew ?_ | with_reducible refine bl_drewN ?_ | ((with_reducible refine bl_step (by assumption) ?_ ?_); (focus (first | (simp; done) | (simp; omega) | omega))))))))))) | quiet_step ((first | (go_at_call 143; exact later_same (c_impl_between _ _ _ _)) | (go_at_call 144; exact later_same (c_impl_TimeOk _ _)) | (go_at_call 159; exact later_call (c_impl_SeenOk _ _ _ _ (HL.out _ (by (repeat (first | with_reducible exact Below.refl _ _ | ((with_reducible refine bl_alloc ?_ ?_); (focus (first | (simp; done) | (simp; omega) | omega))) | ((with_reducible refine bl_set ?_ ?_); (focus (first | (simp; done) | (simp; omega) | omega))) | ((with_reducible refine bl_later ?_ ?_); (focus (first | (simp; done) | (simp; omega) | omega))) | with_reducible refine bl_drew ?_ | with_reducible refine bl_drewN ?_ | ((with_reducible refine bl_step (by assumption) ?_ ?_); (focus (first | (simp; done) | (simp; omega) | omega))))))))) | (go_at_call 160; exact later_call (c_impl_lastSeen _ _ _ _ (HL.out _ (by (repeat (first | with_reducible exact Below.refl _ _ | ((with_reducible refine bl_alloc ?_ ?_); (focus (first | (simp; done) | (simp; omega) | omega))) | ((with_reducible refine bl_set ?_ ?_); (focus (first | (simp; done) | (simp; omega) | omega))) | ((with_reducible refine bl_later ?_ ?_); (focus (first | (simp; done) | (simp; omega) | omega))) | with_reducible refine bl_drew ?_ | with_reducible refine bl_drewN ?_ | ((with_reducible refine bl_step (by assumption) ?_ ?_); (focus (first | (simp; done) | (simp; omega) | omega))))))))))))
          refine wpQuiet_nil ?_
          intro _ hw'
          obtain ⟨x, hw''⟩ := hw'
          subst hw''
          go_wp2_with fail
          go_ret
          exact ⟨by rw [HF.out]; rfl, by (repeat (first | with_reducible exact Below.refl _ _ | ((with_reducible refine bl_alloc ?_ ?_); (focus (first | (simp; done) | (simp; omega) | omega))) | ((with_reducible refine bl_set ?_ ?_); (focus (first | (simp; done) | (simp; omega) | omega))) | ((with_reducible refine bl_later ?_ ?_); (focus (first | (simp; done) | (simp; omega) | omega))) | with_reducible refine bl_drew ?_ | with_reducible refine bl_drewN ?_ | ((with_reducible refine bl_step (by assumption) ?_ ?_); (focus (first | (simp; done) | (simp; omega) | omega)))))⟩
theorem c_spec_HeadOk (num base time : Int) (ao : Option Addr) (cap : Nat) (l : List MarkT) (w : World) (hl : ReadA markE w ao l) :
    Calls Try.prog 69 #[.agg #[.int .i64 num, .int .i64 base, .int .i64 time, .slice ao l.length cap]] w fun e w' => e = .returned (.bool (headOk num base time l)) ∧ Below w.heap.size w w' := by
  have HL : Hid (∀ V, Below w.heap.size w V → ReadA markE V ao l) := fun V hb => hl.below hb
  clear hl
  cases h1 : inB base 0 2000
  · have HF : Hid (headOk num base time l = false) := by simp [Hid, headOk, *]
    go_enter Try.func69, Try.ntmps69
    go_wp2_with fail
    refine wp_region_later (by kernel_rfl) (by kernel_rfl) ?_
    repeat (first | go_big_quiet_step ((first | (go_at_call 122; exact later_same (c_spec_l1In _ _ _ _)) | (go_at_call 76; exact later_same (c_spec_TimeOk _ _)) | (go_at_call 123; exact later_call (c_spec_SeenOk _ _ _ _ (HL.out _ (by (repeat (first | with_reducible exact Below.refl _ _ | ((with_reducible refine bl_alloc ?_ ?_); (focus (first | (simp; done) | (simp; omega) | omega))) | ((with_reducible refine bl_set ?_ ?_); (focus (first | (simp; done) | (simp; omega) | omega))) | ((with_reducible refine bl_later ?_ ?_); (focus (first | (simp; done) | (simp; omega) | omega))) | with_reducible refine bl_drew ?_ | with_reducible refine bl_drewN ?_ | ((with_reducible refine bl_step (by assumption) ?_ ?_); (focus (first | (simp; done) | (simp; omega) | omega))))))))) | (go_at_call 124; exact later_call (c_spec_LastSeen _ _ _ _ (HL.out _ (by (repeat (first | with_reducible exact Below.refl _ _ | ((with_reducible refine bl_alloc ?_ ?_); (focus (first | (simp; done) | (simp; omega) | omega))) | ((with_reducible refine bl_set ?_ ?_); (focus (first | (simp; done) | (simp; omega) | omega))) | ((with_reducible refine bl_later ?_ ?_); (focus (first | (simp; done) | (simp; omega) | omega))) | with_reducible refine bl_drew ?_ | with_reducible refine bl_drewN ?_ | ((with_reducible refine bl_step (by assumption) ?_ ?_); (focus (first | (simp; done) | (simp; omega) | omega))))))) HSo.out)))) | quiet_step ((first | (go_at_call 122; exact later_same (c_spec_l1In _ _ _ _)) | (go_at_call 76; exact later_same (c_spec_TimeOk _ _)) | (go_at_call 123; exact later_call (c_spec_SeenOk _ _ _ _ (HL.out _ (by (repeat (first | with_reducible exact Below.refl _ _ | ((with_reducible refine bl_alloc ?_ ?_); (focus (first | (simp; done) | (simp; omega) | omega))) | ((with_reducible refine bl_set ?_ ?_); (focus (first | (simp; done) | (simp; omega) | omega))) | ((with_reducible refine bl_later ?_ ?_); (focus (first | (simp; done) | (simp; omega) | omega))) | with_reducible refine bl_drew ?_ | with_reducible refine bl_drewN ?_ | ((with_reducible refine bl_step (by assumption) ?_ ?_); (focus (first | (simp; done) | (simp; omega) | omega))))))))) | (go_at_call 124; exact later_call (c_spec_LastSeen _ _ _ _ (HL.out _ (by (repeat (first | with_reducible exact Below.refl _ _ | ((with_reducible refine bl_alloc ?_ ?_); (focus (first | (simp; done) | (simp; omega) | omega))) | ((with_reducible refine bl_set ?_ ?_); (focus (first | (simp; done) | (simp; omega) | omega))) | ((with_reducible refine bl_later ?_ ?_); (focus (first | (simp; done) | (simp; omega) | omega))) | with_reducible refine bl_drew ?_ | with_reducible refine bl_drewN ?_ | ((with_reducible refine bl_step (by assumption) ?_ ?_); (focus (first | (simp; done) | (simp; omega) | omega))))))) HSo.out)))))
    refine wpQuiet_nil ?_
    intro _ hw'
    obtain ⟨x, hw''⟩ := hw'
    subst hw''
    go_wp2_with fail
    go_ret
    exact ⟨by rw [HF.out]; rfl, by (repeat (first | with_reducible exact Below.refl _ _ | ((with_reducible refine bl_alloc ?_ ?_); (focus (first | (simp; done) | (simp; omega) | omega))) | ((with_reducible refine bl_set ?_ ?_); (focus (first | (simp; done) | (simp; omega) | omega))) | ((with_reducible refine bl_later ?_ ?_); (focus (first | (simp; done) | (simp; omega) | omega))) | with_reducible refine bl_drew ?_ | with_reducible refine bl_drewN ?_ | ((with_reducible refine bl_step (by assumption) ?_ ?_); (focus (first | (simp; done) | (simp; omega) | omega)))))⟩
  cases h2 : inB num 0 base
  · have HF : Hid (headOk num base time l = false) := by simp [Hid, headOk, *]
    go_enter Try.func69, Try.ntmps69
    go_wp2_with fail
    refine wp_region_later (by kernel_rfl) (by kernel_rfl) ?_
    repeat (first | go_big_quiet_step ((first | (go_at_call 122; exact later_same (c_spec_l1In _ _ _ _)) | (go_at_call 76; exact later_same (c_spec_TimeOk _ _)) | (go_at_call 123; exact later_call (c_spec_SeenOk _ _ _ _ (HL.out _ (by (repeat (first | with_reducible exact Below.refl _ _ | ((with_reducible refine bl_alloc ?_ ?_); (focus (first | (simp; done) | (simp; omega) | omega))) | ((with_reducible refine bl_set ?_ ?_); (focus (first | (simp; done) | (simp; omega) | omega))) | ((with_reducible refine bl_later ?_ ?_); (focus (first | (simp; done) | (simp; omega) | omega))) | with_reducible refine bl_drew ?_ | with_reducible refine bl_drewN ?_ | ((with_reducible refine bl_step (by assumption) ?_ ?_); (focus (first | (simp; done) | (simp; omega) | omega))))))))) | (go_at_call 124; exact later_call (c_spec_LastSeen _ _ _ _ (HL.out _ (by (repeat (first | with_reducible exact Below.refl _ _ | ((with_reducible refine bl_alloc ?_ ?_); (focus (first | (simp; done) | (simp; omega) | omega))) | ((with_reducible refine bl_set ?_ ?_); (focus (first | (simp; done) | (simp; omega) | omega))) | ((with_reducible refine bl_later ?_ ?_); (focus (first | (simp; done) | (simp; omega) | omega))) | with_reducible refine bl_drew ?_ | with_reducible refine bl_drewN ?_ | ((with_reducible refine bl_step (by assumption) ?_ ?_); (focus (first | (simp; done) | (simp; omega) | omega))))))) HSo.out)))) | quiet_step ((first | (go_at_call 122; exact later_same (c_spec_l1In _ _ _ _)) | (go_at_call 76; exact later_same (c_spec_TimeOk _ _)) | (go_at_call 123; exact later_call (c_spec_SeenOk _ _ _ _ (HL.out _ (by (repeat (first | with_reducible exact Below.refl _ _ | ((with_reducible refine bl_alloc ?_ ?_); (focus (first | (simp; done) | (simp; omega) | omega))) | ((with_reducible refine bl_set ?_ ?_); (focus (first | (simp; done) | (simp; omega) | omega))) | ((with_reducible refine bl_later ?_ ?_); (focus (first | (simp; done) | (simp; omega) | omega))) | with_reducible refine bl_drew ?_ | with_reducible refine bl_drewN ?_ | ((with_reducible refine bl_step (by assumption) ?_ ?_); (focus (first | (simp; done) | (simp; omega) | omega))))))))) | (go_at_call 124; exact later_call (c_spec_LastSeen _ _ _ _ (HL.out _ (by (repeat (first | with_reducible exact Below.refl _ _ | ((with_reducible refine bl_alloc ?_ ?_); (focus (first | (simp; done) | (simp; omega) | omega))) | ((with_reducible refine bl_set ?_ ?_); (focus (first | (simp; done) | (simp; omega) | omega))) | ((with_reducible refine bl_later ?_ ?_); (focus (first | (simp; done) | (simp; omega) | omega))) | with_reducible refine bl_drew ?_ | with_reducible refine bl_drewN ?_ | ((with_reducible refine bl_step (by assumption) ?_ ?_); (focus (first | (simp; done) | (simp; omega) | omega))))))) HSo.out)))))
    refine wpQuiet_nil ?_
    intro _ hw'
    obtain ⟨x, hw''⟩ := hw'
    subst hw''
    go_wp2_with fail
    go_ret
    exact ⟨by rw [HF.out]; rfl, by (repeat (first | with_reducible exact Below.refl _ _ | ((with_reducible refine bl_alloc ?_ ?_); (focus (first | (simp; done) | (simp; omega) | omega))) | ((with_reducible refine bl_set ?_ ?_); (focus (first | (simp; done) | (simp; omega) | omega))) | ((with_reducible refine bl_later ?_ ?_); (focus (first | (simp; done) | (simp; omega) | omega))) | with_reducible refine bl_drew ?_ | with_reducible refine bl_drewN ?_ | ((with_reducible refine bl_step (by assumption) ?_ ?_); (focus (first | (simp; done) | (simp; omega) | omega)))))⟩
  cases h3 : inB time 0 1000000
  · have HF : Hid (headOk num base time l = false) := by simp [Hid, headOk, *]
    go_enter Try.func69, Try.ntmps69
    go_wp2_with fail
    refine wp_region_later (by kernel_rfl) (by kernel_rfl) ?_
    repeat (first | go_big_quiet_step ((first | (go_at_call 122; exact later_same (c_spec_l1In _ _ _ _)) | (go_at_call 76; exact later_same (c_spec_TimeOk _ _)) | (go_at_call 123; exact later_call (c_spec_SeenOk _ _ _ _ (HL.out _ (by (repeat (first | with_reducible exact Below.refl _ _ | ((with_reducible refine bl_alloc ?_ ?_); (focus (first | (simp; done) | (simp; omega) | omega))) | ((with_reducible refine bl_set ?_ ?_); (focus (first | (simp; done) | (simp; omega) | omega))) | ((with_reducible refine bl_later ?_ ?_); (focus (first | (simp; done) | (simp; omega) | omega))) | with_reducible refine bl_drew ?_ | with_reducible refine bl_drewN ?_ | ((with_reducible refine bl_step (by assumption) ?_ ?_); (focus (first | (simp; done) | (simp; omega) | omega))))))))) | (go_at_call 124; exact later_call (c_spec_LastSeen _ _ _ _ (HL.out _ (by (repeat (first | with_reducible exact Below.refl _ _ | ((with_reducible refine bl_alloc ?_ ?_); (focus (first | (simp; done) | (simp; omega) | omega))) | ((with_reducible refine bl_set ?_ ?_); (focus (first | (simp; done) | (simp; omega) | omega))) | ((with_reducible refine bl_later ?_ ?_); (focus (first | (simp; done) | (simp; omega) | omega))) | with_reducible refine bl_drew ?_ | with_reducible refine bl_drewN ?_ | ((with_reducible refine bl_step (by assumption) ?_ ?_); (focus (first | (simp; done) | (simp; omega) | omega))))))) HSo.out)))) | quiet_step ((first | (go_at_call 122; exact later_same (c_spec_l1In _ _ _ _)) | (go_at_call 76; exact later_same (c_spec_TimeOk _ _)) | (go_at_call 123; exact later_call (c_spec_SeenOk _ _ _ _ (HL.out _ (by (repeat (first | with_reducible exact Below.refl _ _ | ((with_reducible refine bl_alloc ?_ ?_); (focus (first | (simp; done) | (simp; omega) | omega))) | ((with_reducible refine bl_set ?_ ?_); (focus (first | (simp; done) | (simp; omega) | omega))) | ((with_reducible refine bl_later ?_ ?_); (focus (first | (simp; done) | (simp; omega) | omega))) | with_reducible refine bl_drew ?_ | with_reducible refine bl_drewN ?_ | ((with_reducible refine bl_step (by assumption) ?_ ?_); (focus (first | (simp; done) | (simp; omega) | omega))))))))) | (go_at_call 124; exact later_call (c_spec_LastSeen _ _ _ _ (HL.out _ (by (repeat (first | with_reducible exact Below.refl _ _ | ((with_reducible refine bl_alloc ?_ ?_); (focus (first | (simp; done) | (simp; omega) | omega))) | ((with_reducible refine bl_set ?_ ?_); (focus (first | (simp; done) | (simp; omega) | omega))) | ((with_reducible refine bl_later ?_ ?_); (focus (first | (simp; done) | (simp; omega) | omega))) | with_reducible refine bl_drew ?_ | with_reducible refine bl_drewN ?_ | ((with_reducible refine bl_step (by assumption) ?_ ?_); (focus (first | (simp; done) | (simp; omega) | omega))))))) HSo.out)))))
    refine wpQuiet_nil ?_
    intro _ hw'
    obtain ⟨x, hw''⟩ := hw'
    subst hw''
    go_wp2_with fail
    go_ret
    exact ⟨by rw [HF.out]; rfl, by (repeat (first | with_reducible exact Below.refl _ _ | ((with_reducible refine bl_alloc ?_ ?_); (focus (first | (simp; done) | (simp; omega) | omega))) | ((with_reducible refine bl_set ?_ ?_); (focus (first | (simp; done) | (simp; omega) | omega))) | ((with_reducible refine bl_later ?_ ?_); (focus (first | (simp; done) | (simp; omega) | omega))) | with_reducible refine bl_drew ?_ | with_reducible refine bl_drewN ?_ | ((with_reducible refine bl_step (by assumption) ?_ ?_); (focus (first | (simp; done) | (simp; omega) | omega)))))⟩
  by_cases h4 : 0 < base
  · have h4b : decide (0 < base) = true := decide_eq_true h4
    cases h5 : seenOk l
    · have HF : Hid (headOk num base time l = false) := by simp [Hid, headOk, *]
      go_enter Try.func69, Try.ntmps69
      go_wp2_with fail
      refine wp_region_later (by kernel_rfl) (by kernel_rfl) ?_
      repeat (first | go_big_quiet_step ((first | (go_at_call 122; exact later_same (c_spec_l1In _ _ _ _)) | (go_at_call 76; exact later_same (c_spec_TimeOk _ _)) | (go_at_call 123; exact later_call (c_spec_SeenOk _ _ _ _ (HL.out _ (by (repeat (first | with_reducible exact Below.refl _ _ | ((with_reducible refine bl_alloc ?_ ?_); (focus (first | (simp; done) | (simp; omega) | omega))) | ((with_reducible refine bl_set ?_ ?_); (focus (first | (simp; done) | (simp; omega) | omega))) | ((with_reducible refine bl_later ?_ ?_); (focus (first | (simp; done) | (simp; omega) | omega))) | with_reducible refine bl_drew ?_ | with_reducible refine bl_drewN ?_ | ((with_reducible refine bl_step (by assumption) ?_ ?_); (focus (first | (simp; done) | (simp; omega) | omega))))))))) | (go_at_call 124; exact later_call (c_spec_LastSeen _ _ _ _ (HL.out _ (by (repeat (first | with_reducible exact Below.refl _ _ | ((with_reducible refine bl_alloc ?_ ?_); (focus (first | (simp; done) | (simp; omega) | omega))) | ((with_reducible refine bl_set ?_ ?_); (focus (first | (simp; done) | (simp; omega) | omega))) | ((with_reducible refine bl_later ?_ ?_); (focus (first | (simp; done) | (simp; omega) | omega))) | with_reducible refine bl_drew ?_ | with_reducible refine bl_drewN ?_ | ((with_reducible refine bl_step (by assumption) ?_ ?_); (focus (first | (simp; done) | (simp; omega) | omega))))))) HSo.out)))) | quiet_step ((first | (go_at_call 122; exact later_same (c_spec_l1In _ _ _ _)) | (go_at_call 76; exact later_same (c_spec_TimeOk _ _)) | (go_at_call 123; exact later_call (c_spec_SeenOk _ _ _ _ (HL.out _ (by (repeat (first | with_reducible exact Below.refl _ _ | ((with_reducible refine bl_alloc ?_ ?_); (focus (first | (simp; done) | (simp; omega) | omega))) | ((with_reducible refine bl_set ?_ ?_); (focus (first | (simp; done) | (simp; omega) | omega))) | ((with_reducible refine bl_later ?_ ?_); (focus (first | (simp; done) | (simp; omega) | omega))) | with_reducible refine bl_drew ?_ | with_reducible refine bl_drewN ?_ | ((with_reducible refine bl_step (by assumption) ?_ ?_); (focus (first | (simp; done) | (simp; omega) | omega))))))))) | (go_at_call 124; exact later_call (c_spec_LastSeen _ _ _ _ (HL.out _ (by (repeat (first | with_reducible exact Below.refl _ _ | ((with_reducible refine bl_alloc ?_ ?_); (focus (first | (simp; done) | (simp; omega) | omega))) | ((with_reducible refine bl_set ?_ ?_); (focus (first | (simp; done) | (simp; omega) | omega))) | ((with_reducible refine bl_later ?_ ?_); (focus (first | (simp; done) | (simp; omega) | omega))) | with_reducible refine bl_drew ?_ | with_reducible refine bl_drewN ?_ | ((with_reducible refine bl_step (by assumption) ?_ ?_); (focus (first | (simp; done) | (simp; omega) | omega))))))) HSo.out)))))
      refine wpQuiet_nil ?_
      intro _ hw'
      obtain ⟨x, hw''⟩ := hw'
      subst hw''
      go_wp2_with fail
      go_ret
      exact ⟨by rw [HF.out]; rfl, by (repeat (first | with_reducible exact Below.refl _ _ | ((with_reducible refine bl_alloc ?_ ?_); (focus (first | (simp; done) | (simp; omega) | omega))) | ((with_reducible refine bl_set ?_ ?_); (focus (first | (simp; done) | (simp; omega) | omega))) | ((with_reducible refine bl_later ?_ ?_); (focus (first | (simp; done) | (simp; omega) | omega))) | with_reducible refine bl_drew ?_ | with_reducible refine bl_drewN ?_ | ((with_reducible refine bl_step (by assumption) ?_ ?_); (focus (first | (simp; done) | (simp; omega) | omega)))))⟩
    · have HSo := Lib.hid h5
      cases h6 : (lastSeen l == base)
      · have HF : Hid (headOk num base time l = false) := by simp [Hid, headOk, *]
        go_enter Try.func69, Try.ntmps69
        go_wp2_with fail
        refine wp_region_later (by kernel_rfl) (by kernel_rfl) ?_
        repeat (first | go_big_quiet_step ((first | (go_at_call 122; exact later_same (c_spec_l1In _ _ _ _)) | (go_at_call 76; exact later_same (c_spec_TimeOk _ _)) | (go_at_call 123; exact later_call (c_spec_SeenOk _ _ _ _ (HL.out _ (by (repeat (first | with_reducible exact Below.refl _ _ | ((with_reducible refine bl_alloc ?_ ?_); (focus (first | (simp; done) | (simp; omega) | omega))) | ((with_reducible refine bl_set ?_ ?_); (focus (first | (simp; done) | (simp; omega) | omega))) | ((with_reducible refine bl_later ?_ ?_); (focus (first | (simp; done) | (simp; omega) | omega))) | with_reducible refine bl_drew ?_ | with_reducible refine bl_drewN ?_ | ((with_reducible refine bl_step (by assumption) ?_ ?_); (focus (first | (simp; done) | (simp; omega) | omega))))))))) | (go_at_call 124; exact later_call (c_spec_LastSeen _ _ _ _ (HL.out _ (by (repeat (first | with_reducible exact Below.refl _ _ | ((with_reducible refine bl_alloc ?_ ?_); (focus (first | (simp; done) | (simp; omega) | omega))) | ((with_reducible refine bl_set ?_ ?_); (focus (first | (simp; done) | (simp; omega) | omega))) | ((with_reducible refine bl_later ?_ ?_); (focus (first | (simp; done) | (simp; omega) | omega))) | with_reducible refine bl_drew ?_ | with_reducible refine bl_drewN ?_ | ((with_reducible refine bl_step (by assumption) ?_ ?_); (focus (first | (simp; done) | (simp; omega) | omega))))))) HSo.out)))) | quiet_step ((first | (go_at_call 122; exact later_same (c_spec_l1In _ _ _ _)) | (go_at_call 76; exact later_same (c_spec_TimeOk _ _)) | (go_at_call 123; exact later_call (c_spec_SeenOk _ _ _ _ (HL.out _ (by (repeat (first | with_reducible exact Below.refl _ _ | ((with_reducible refine bl_alloc ?_ ?_); (focus (first | (simp; done) | (simp; omega) | omega))) | ((with_reducible refine bl_set ?_ ?_); (focus (first | (simp; done) | (simp; omega) | omega))) | ((with_reducible refine bl_later ?_ ?_); (focus (first | (simp; done) | (simp; omega) | omega))) | with_reducible refine bl_drew ?_ | with_reducible refine bl_drewN ?_ | ((with_reducible refine bl_step (by assumption) ?_ ?_); (focus (first | (simp; done) | (simp; omega) | omega))))))))) | (go_at_call 124; exact later_call (c_spec_LastSeen _ _ _ _ (HL.out _ (by (repeat (first | with_reducible exact Below.refl _ _ | ((with_reducible refine bl_alloc ?_ ?_); (focus (first | (simp; done) | (simp; omega) | omega))) | ((with_reducible refine bl_set ?_ ?_); (focus (first | (simp; done) | (simp; omega) | omega))) | ((with_reducible refine bl_later ?_ ?_); (focus (first | (simp; done) | (simp; omega) | omega))) | with_reducible refine bl_drew ?_ | with_reducible refine bl_drewN ?_ | ((with_reducible refine bl_step (by assumption) ?_ ?_); (focus (first | (simp; done) | (simp; omega) | omega))))))) HSo.out)))))
        refine wpQuiet_nil ?_
        intro _ hw'
        obtain ⟨x, hw''⟩ := hw'
        subst hw''
        go_wp2_with fail
        go_ret
        exact ⟨by rw [HF.out]; rfl, by (repeat (first | with_reducible exact Below.refl _ _ | ((with_reducible refine bl_alloc ?_ ?_); (focus (first | (simp; done) | (simp; omega) | omega))) | ((with_reducible refine bl_set ?_ ?_); (focus (first | (simp; done) | (simp; omega) | omega))) | ((with_reducible refine bl_later ?_ ?_); (focus (first | (simp; done) | (simp; omega) | omega))) | with_reducible refine bl_drew ?_ | with_reducible refine bl_drewN ?_ | ((with_reducible refine bl_step (by assumption) ?_ ?_); (focus (first | (simp; done) | (simp; omega) | omega)))))⟩
      · have HF : Hid (headOk num base time l = true) := by simp [Hid, headOk, *]
        go_enter Try.func69, Try.ntmps69
        go_wp2_with fail
        refine wp_region_later (by kernel_rfl) (by kernel_rfl) ?_
        repeat (first | go_big_quiet_step ((first | (go_at_call 122; exact later_same (c_spec_l1In _ _ _ _)) | (go_at_call 76; exact later_same (c_spec_TimeOk _ _)) | (go_at_call 123; exact later_call (c_spec_SeenOk _ _ _ _ (HL.out _ (by (repeat (first | with_reducible exact Below.refl _ _ | ((with_reducible refine bl_alloc ?_ ?_); (focus (first | (simp; done) | (simp; omega) | omega))) | ((with_reducible refine bl_set ?_ ?_); (focus (first | (simp; done) | (simp; omega) | omega))) | ((with_reducible refine bl_later ?_ ?_); (focus (first | (simp; done) | (simp; omega) | omega))) | with_reducible refine bl_drew ?_ | with_reducible refine bl_drewN ?_ | ((with_reducible refine bl_step (by assumption) ?_ ?_); (focus (first | (simp; done) | (simp; omega) | omega))))))))) | (go_at_call 124; exact later_call (c_spec_LastSeen _ _ _ _ (HL.out _ (by (repeat (first | with_reducible exact Below.refl _ _ | ((with_reducible refine bl_alloc ?_ ?_); (focus (first | (simp; done) | (simp; omega) | omega))) | ((with_reducible refine bl_set ?_ ?_); (focus (first | (simp; done) | (simp; omega) | omega))) | ((with_reducible refine bl_later ?_ ?_); (focus (first | (simp; done) | (simp; omega) | omega))) | with_reducible refine bl_drew ?_ | with_reducible refine bl_drewN ?_ | ((with_reducible refine bl_step (by assumption) ?_ ?_); (focus (first | (simp; done) | (simp; omega) | omega))))))) HSo.out)))) | quiet_step ((first | (go_at_call 122; exact later_same (c_spec_l1In _ _ _ _)) | (go_at_call 76; exact later_same (c_spec_TimeOk _ _)) | (go_at_call 123; exact later_call (c_spec_SeenOk _ _ _ _ (HL.out _ (by (repeat (first | with_reducible exact Below.refl _ _ | ((with_reducible refine bl_alloc ?_ ?_); (focus (first | (simp; done) | (simp; omega) | omega))) | ((with_reducible refine bl_set ?_ ?_); (focus (first | (simp; done) | (simp; omega) | omega))) | ((with_reducible refine bl_later ?_ ?_); (focus (first | (simp; done) | (simp; omega) | omega))) | with_reducible refine bl_drew ?_ | with_reducible refine bl_drewN ?_ | ((with_reducible refine bl_step (by assumption) ?_ ?_); (focus (first | (simp; done) | (simp; omega) | omega))))))))) | (go_at_call 124; exact later_call (c_spec_LastSeen _ _ _ _ (HL.out _ (by (repeat (first | with_reducible exact Below.refl _ _ | ((with_reducible refine bl_alloc ?_ ?_); (focus (first | (simp; done) | (simp; omega) | omega))) | ((with_reducible refine bl_set ?_ ?_); (focus (first | (simp; done) | (simp; omega) | omega))) | ((with_reducible refine bl_later ?_ ?_); (focus (first | (simp; done) | (simp; omega) | omega))) | with_reducible refine bl_drew ?_ | with_reducible refine bl_drewN ?_ | ((with_reducible refine bl_step (by assumption) ?_ ?_); (focus (first | (simp; done) | (simp; omega) | omega))))))) HSo.out)))))
        refine wpQuiet_nil ?_
        intro _ hw'
        obtain ⟨x, hw''⟩ := hw'
        subst hw''
        go_wp2_with fail
        go_ret
        exact ⟨by rw [HF.out]; rfl, by (repeat (first | with_reducible exact Below.refl _ _ | ((with_reducible refine bl_alloc ?_ ?_); (focus (first | (simp; done) | (simp; omega) | omega))) | ((with_reducible refine bl_set ?_ ?_); (focus (first | (simp; done) | (simp; omega) | omega))) | ((with_reducible refine bl_later ?_ ?_); (focus (first | (simp; done) | (simp; omega) | omega))) | with_reducible refine bl_drew ?_ | with_reducible refine bl_drewN ?_ | ((with_reducible refine bl_step (by assumption) ?_ ?_); (focus (first | (simp; done) | (simp; omega) | omega)))))⟩
  · have h4b : decide (0 < base) = false := decide_eq_false h4
    cases h7 : (time == 0)
    · have HF : Hid (headOk num base time l = false) := by simp [Hid, headOk, *]
      go_enter Try.func69, Try.ntmps69
      go_wp2_with fail
      refine wp_region_later (by kernel_rfl) (by kernel_rfl) ?_
      repeat (first | go_big_quiet_step ((first | (go_at_call 122; exact later_same (c_spec_l1In _ _ _ _)) | (go_at_call 76; exact later_same (c_spec_TimeOk _ _)) | (go_at_call 123; exact later_call (c_spec_SeenOk _ _ _ _ (HL.out _ (by (repeat (first | with_reducible exact Below.refl _ _ | ((with_reducible refine bl_alloc ?_ ?_); (focus (first | (simp; done) | (simp; omega) | omega))) | ((with_reducible refine bl_set ?_ ?_); (focus (first | (simp; done) | (simp; omega) | omega))) | ((with_reducible refine bl_later ?_ ?_); (focus (first | (simp; done) | (simp; omega) | omega))) | with_reducible refine bl_drew ?_ | with_reducible refine bl_drewN ?_ | ((with_reducible refine bl_step (by assumption) ?_ ?_); (focus (first | (simp; done) | (simp; omega) | omega))))))))) | (go_at_call 124; exact later_call (c_spec_LastSeen _ _ _ _ (HL.out _ (by (repeat (first | with_reducible exact Below.refl _ _ | ((with_reducible refine bl_alloc ?_ ?_); (focus (first | (simp; done) | (simp; omega) | omega))) | ((with_reducible refine bl_set ?_ ?_); (focus (first | (simp; done) | (simp; omega) | omega))) | ((with_reducible refine bl_later ?_ ?_); (focus (first | (simp; done) | (simp; omega) | omega))) | with_reducible refine bl_drew ?_ | with_reducible refine bl_drewN ?_ | ((with_reducible refine bl_step (by assumption) ?_ ?_); (focus (first | (simp; done) | (simp; omega) | omega))))))) HSo.out)))) | quiet_step ((first | (go_at_call 122; exact later_same (c_spec_l1In _ _ _ _)) | (go_at_call 76; exact later_same (c_spec_TimeOk _ _)) | (go_at_call 123; exact later_call (c_spec_SeenOk _ _ _ _ (HL.out _ (by (repeat (first | with_reducible exact Below.refl _ _ | ((with_reducible refine bl_alloc ?_ ?_); (focus (first | (simp; done) | (simp; omega) | omega))) | ((with_reducible refine bl_set ?_ ?_); (focus (first | (simp; done) | (simp; omega) | omega))) | ((with_reducible refine bl_later ?_ ?_); (focus (first | (simp; done) | (simp; omega) | omega))) | with_reducible refine bl_drew ?_ | with_reducible refine bl_drewN ?_ | ((with_reducible refine bl_step (by assumption) ?_ ?_); (focus (first | (simp; done) | (simp; omega) | omega))))))))) | (go_at_call 124; exact later_call (c_spec_LastSeen _ _ _ _ (HL.out _ (by (repeat (first | with_reducible exact Below.refl _ _ | ((with_reducible refine bl_alloc ?_ ?_); (focus (first | (simp; done) | (simp; omega) | omega))) | ((with_reducible refine bl_set ?_ ?_); (focus (first | (simp; done) | (simp; omega) | omega))) | ((with_reducible refine bl_later ?_ ?_); (focus (first | (simp; done) | (simp; omega) | omega))) | with_reducible refine bl_drew ?_ | with_reducible refine bl_drewN ?_ | ((with_reducible refine bl_step (by assumption) ?_ ?_); (focus (first | (simp; done) | (simp; omega) | omega))))))) HSo.out)))))
      refine wpQuiet_nil ?_
      intro _ hw'
      obtain ⟨x, hw''⟩ := hw'
      subst hw''
      go_wp2_with fail
      go_ret
      exact ⟨by rw [HF.out]; rfl, by (repeat (first | with_reducible exact Below.refl _ _ | ((with_reducible refine bl_alloc ?_ ?_); (focus (first | (simp; done) | (simp; omega) | omega))) | ((with_reducible refine bl_set ?_ ?_); (focus (first | (simp; done) | (simp; omega) | omega))) | ((with_reducible refine bl_later ?_ ?_); (focus (first | (simp; done) | (simp; omega) | omega))) | with_reducible refine bl_drew ?_ | with_reducible refine bl_drewN ?_ | ((with_reducible refine bl_step (by assumption) ?_ ?_); (focus (first | (simp; done) | (simp; omega) | omega)))))⟩
    · cases h5 : seenOk l
      · have HF : Hid (headOk num base time l = false) := by simp [Hid, headOk, *]
        go_enter Try.func69, Try.ntmps69
        go_wp2_with fail
        refine wp_region_later (by kernel_rfl) (by kernel_rfl) ?_
        repeat (first | go_big_quiet_step ((first | (go_at_call 122; exact later_same (c_spec_l1In _ _ _ _)) | (go_at_call 76; exact later_same (c_spec_TimeOk _ _)) | (go_at_call 123; exact later_call (c_spec_SeenOk _ _ _ _ (HL.out _ (by (repeat (first | with_reducible exact Below.refl _ _ | ((with_reducible refine bl_alloc ?_ ?_); (focus (first | (simp; done) | (simp; omega) | omega))) | ((with_reducible refine bl_set ?_ ?_); (focus (first | (simp; done) | (simp; omega) | omega))) | ((with_reducible refine bl_later ?_ ?_); (focus (first | (simp; done) | (simp; omega) | omega))) | with_reducible refine bl_drew ?_ | with_reducible refine bl_drewN ?_ | ((with_reducible refine bl_step (by assumption) ?_ ?_); (focus (first | (simp; done) | (simp; omega) | omega))))))))) | (go_at_call 124; exact later_call (c_spec_LastSeen _ _ _ _ (HL.out _ (by (repeat (first | with_reducible exact Below.refl _ _ | ((with_reducible refine bl_alloc ?_ ?_); (focus (first | (simp; done) | (simp; omega) | omega))) | ((with_reducible refine bl_set ?_ ?_); (focus (first | (simp; done) | (simp; omega) | omega))) | ((with_reducible refine bl_later ?_ ?_); (focus (first | (simp; done) | (simp; omega) | omega))) | with_reducible refine bl_drew ?_ | with_reducible refine bl_drewN ?_ | ((with_reducible refine bl_step (by assumption) ?_ ?_); (focus (first | (simp; done) | (simp; omega) | omega))))))) HSo.out)))) | quiet_step ((first | (go_at_call 122; exact later_same (c_spec_l1In _ _ _ _)) | (go_at_call 76; exact later_same (c_spec_TimeOk _ _)) | (go_at_call 123; exact later_call (c_spec_SeenOk _ _ _ _ (HL.out _ (by (repeat (first | with_reducible exact Below.refl _ _ | ((with_reducible refine bl_alloc ?_ ?_); (focus (first | (simp; done) | (simp; omega) | omega))) | ((with_reducible refine bl_set ?_ ?_); (focus (first | (simp; done) | (simp; omega) | omega))) | ((with_reducible refine bl_later ?_ ?_); (focus (first | (simp; done) | (simp; omega) | omega))) | with_reducible refine bl_drew ?_ | with_reducible refine bl_drewN ?_ | ((with_reducible refine bl_step (by assumption) ?_ ?_); (focus (first | (simp; done) | (simp; omega) | omega))))))))) | (go_at_call 124; exact later_call (c_spec_LastSeen _ _ _ _ (HL.out _ (by (repeat (first | with_reducible exact Below.refl _ _ | ((with_reducible refine bl_alloc ?_ ?_); (focus (first | (simp; done) | (simp; omega) | omega))) | ((with_reducible refine bl_set ?_ ?_); (focus (first | (simp; done) | (simp; omega) | omega))) | ((with_reducible refine bl_later ?_ ?_); (focus (first | (simp; done) | (simp; omega) | omega))) | with_reducible refine bl_drew ?_ | with_reducible refine bl_drewN ?_ | ((with_reducible refine bl_step (by assumption) ?_ ?_); (focus (first | (simp; done) | (simp; omega) | omega))))))) HSo.out)))))
        refine wpQuiet_nil ?_
        intro _ hw'
        obtain ⟨x, hw''⟩ := hw'
        subst hw''
        go_wp2_with fail
        go_ret
        exact ⟨by rw [HF.out]; rfl, by (repeat (first | with_reducible exact Below.refl _ _ | ((with_reducible refine bl_alloc ?_ ?_); (focus (first | (simp; done) | (simp; omega) | omega))) | ((with_reducible refine bl_set ?_ ?_); (focus (first | (simp; done) | (simp; omega) | omega))) | ((with_reducible refine bl_later ?_ ?_); (focus (first | (simp; done) | (simp; omega) | omega))) | with_reducible refine bl_drew ?_ | with_reducible refine bl_drewN ?_ | ((with_reducible refine bl_step (by assumption) ?_ ?_); (focus (first | (simp; done) | (simp; omega) | omega)))))⟩
      · have HSo := Lib.hid h5
        cases h6 : (lastSeen l == base)
        · have HF : Hid (headOk num base time l = false) := by simp [Hid, headOk, *]
          go_enter Try.func69, Try.ntmps69
          go_wp2_with fail
          refine wp_region_later (by kernel_rfl) (by kernel_rfl) ?_
          repeat (first | go_big_quiet_step ((first | (go_at_call 122; exact later_same (c_spec_l1In _ _ _ _)) | (go_at_call 76; exact later_same (c_spec_TimeOk _ _)) | (go_at_call 123; exact later_call (c_spec_SeenOk _ _ _ _ (HL.out _ (by (repeat (first | with_reducible exact Below.refl _ _ | ((with_reducible refine bl_alloc ?_ ?_); (focus (first | (simp; done) | (simp; omega) | omega))) | ((with_reducible refine bl_set ?_ ?_); (focus (first | (simp; done) | (simp; omega) | omega))) | ((with_reducible refine bl_later ?_ ?_); (focus (first | (simp; done) | (simp; omega) | omega))) | with_reducible refine bl_drew ?_ | with_reducible refine bl_drewN ?_ | ((with_reducible refine bl_step (by assumption) ?_ ?_); (focus (first | (simp; done) | (simp; omega) | omega))))))))) | (go_at_call 124; exact later_call (c_spec_LastSeen _ _ _ _ (HL.out _ (by (repeat (first | with_reducible exact Below.refl _ _ | ((with_reducible refine bl_alloc ?_ ?_); (focus (first | (simp; done) | (simp; omega) | omega))) | ((with_reducible refine bl_set ?_ ?_); (focus (first | (simp; done) | (simp; omega) | omega))) | ((with_reducible refine bl_later ?_ ?_); (focus (first | (simp; done) | (simp; omega) | omega))) | with_reducible refine bl_drew ?_ | with_reducible refine bl_drewN ?_ | ((with_reducible refine bl_step (by assumption) ?_ ?_); (focus (first | (simp; done) | (simp; omega) | omega))))))) HSo.out)))) | quiet_step ((first | (go_at_call 122; exact later_same (c_spec_l1In _ _ _ _)) | (go_at_call 76; exact later_same (c_spec_TimeOk _ _)) | (go_at_call 123; exact later_call (c_spec_SeenOk _ _ _ _ (HL.out _ (by (repeat (first | with_reducible exact Below.refl _ _ | ((with_reducible refine bl_alloc ?_ ?_); (focus (first | (simp; done) | (simp; omega) | omega))) | ((with_reducible refine bl_set ?_ ?_); (focus (first | (simp; done) | (simp; omega) | omega))) | ((with_reducible refine bl_later ?_ ?_); (focus (first | (simp; done) | (simp; omega) | omega))) | with_reducible refine bl_drew ?_ | with_reducible refine bl_drewN ?_ | ((with_reducible refine bl_step (by assumption) ?_ ?_); (focus (first | (simp; done) | (simp; omega) | omega))))))))) | (go_at_call 124; exact later_call (c_spec_LastSeen _ _ _ _ (HL.out _ (by (repeat (first | with_reducible exact Below.refl _ _ | ((with_reducible refine bl_alloc ?_ ?_); (focus (first | (simp; done) | (simp; omega) | omega))) | ((with_reducible refine bl_set ?_ ?_); (focus (first | (simp; done) | (simp; omega) | omega))) | ((with_reducible refine bl_later ?_ ?_); (focus (first | (simp; done) | (simp; omega) | omega))) | with_reducible refine bl_drew ?_ | with_reducible refine bl_drewN ?_ | ((with_reducible refine bl_step (by assumption) ?_ ?_); (focus (first | (simp; done) | (simp; omega) | omega))))))) HSo.out)))))
          refine wpQuiet_nil ?_
          intro _ hw'
          obtain ⟨x, hw''⟩ := hw'
          subst hw''
          go_wp2_with fail
          go_ret
          exact ⟨by rw [HF.out]; rfl, by (repeat (first | with_reducible exact Below.refl _ _ | ((with_reducible refine bl_alloc ?_ ?_); (focus (first | (simp; done) | (simp; omega) | omega))) | ((with_reducible refine bl_set ?_ ?_); (focus (first | (simp; done) | (simp; omega) | omega))) | ((with_reducible refine bl_later ?_ ?_); (focus (first | (simp; done) | (simp; omega) | omega))) | with_reducible refine bl_drew ?_ | with_reducible refine bl_drewN ?_ | ((with_reducible refine bl_step (by assumption) ?_ ?_); (focus (first | (simp; done) | (simp; omega) | omega)))))⟩
        · have HF : Hid (headOk num base time l = true) := by simp [Hid, headOk, *]
          go_enter Try.func69, Try.ntmps69
          go_wp2_with fail
          refine wp_region_later (by kernel_rfl) (by kernel_rfl) ?_
          repeat (first | go_big_quiet_step ((first | (go_at_call 122; exact later_same (c_spec_l1In _ _ _ _)) | (go_at_call 76; exact later_same (c_spec_TimeOk _ _)) | (go_at_call 123; exact later_call (c_spec_SeenOk _ _ _ _ (HL.out _ (by (repeat (first | with_reducible exact Below.refl _ _ | ((with_reducible refine bl_alloc ?_ ?_); (focus (first | (simp; done) | (simp; omega) | omega))) | ((with_reducible refine bl_set ?_ ?_); (focus (first | (simp; done) | (simp; omega) | omega))) | ((with_reducible refine bl_later ?_ ?_); (focus (first | (simp; done) | (simp; omega) | omega))) | with_reducible refine bl_drew ?_ | with_reducible refine bl_drewN ?_ | ((with_reducible refine bl_step (by assumption) ?_ ?_); (focus (first | (simp; done) | (simp; omega) | omega))))))))) | (go_at_call 124; exact later_call (c_spec_LastSeen _ _ _ _ (HL.out _ (by (repeat (first | with_reducible exact Below.refl _ _ | ((with_reducible refine bl_alloc ?_ ?_); (focus (first | (simp; done) | (simp; omega) | omega))) | ((with_reducible refine bl_set ?_ ?_); (focus (first | (simp; done) | (simp; omega) | omega))) | ((with_reducible refine bl_later ?_ ?_); (focus (first | (simp; done) | (simp; omega) | omega))) | with_reducible refine bl_drew ?_ | with_reducible refine bl_drewN ?_ | ((with_reducible refine bl_step (by assumption) ?_ ?_); (focus (first | (simp; done) | (simp; omega) | omega))))))) HSo.out)))) | quiet_step ((first | (go_at_call 122; exact later_same (c_spec_l1In _ _ _ _)) | (go_at_call 76; exact later_same (c_spec_TimeOk _ _)) | (go_at_call 123; exact later_call (c_spec_SeenOk _ _ _ _ (HL.out _ (by (repeat (first | with_reducible exact Below.refl _ _ | ((with_reducible refine bl_alloc ?_ ?_); (focus (first | (simp; done) | (simp; omega) | omega))) | ((with_reducible refine bl_set ?_ ?_); (focus (first | (simp; done) | (simp; omega) | omega))) | ((with_reducible refine bl_later ?_ ?_); (focus (first | (simp; done) | (simp; omega) | omega))) | with_reducible refine bl_drew ?_ | with_reducible refine bl_drewN ?_ | ((with_reducible refine bl_step (by assumption) ?_ ?_); (focus (first | (simp; done) | (simp; omega) | omega))))))))) | (go_at_call 124; exact later_call (c_spec_LastSeen _ _ _ _ (HL.out _ (by (repeat (first | with_reducible exact Below.refl _ _ | ((with_reducible refine bl_alloc ?_ ?_); (focus (first | (simp; done) | (simp; omega) | omega))) | ((with_reducible refine bl_set ?_ ?_); (focus (first | (simp; done) | (simp; omega) | omega))) | ((with_reducible refine bl_later ?_ ?_); (focus (first | (simp; done) | (simp; omega) | omega))) | with_reducible refine bl_drew ?_ | with_reducible refine bl_drewN ?_ | ((with_reducible refine bl_step (by assumption) ?_ ?_); (focus (first | (simp; done) | (simp; omega) | omega))))))) HSo.out)))))
          refine wpQuiet_nil ?_
          intro _ hw'
          obtain ⟨x, hw''⟩ := hw'
          subst hw''
          go_wp2_with fail
          go_ret
          exact ⟨by rw [HF.out]; rfl, by (repeat (first | with_reducible exact Below.refl _ _ | ((with_reducible refine bl_alloc ?_ ?_); (focus (first | (simp; done) | (simp; omega) | omega))) | ((with_reducible refine bl_set ?_ ?_); (focus (first | (simp; done) | (simp; omega) | omega))) | ((with_reducible refine bl_later ?_ ?_); (focus (first | (simp; done) | (simp; omega) | omega))) | with_reducible refine bl_drew ?_ | with_reducible refine bl_drewN ?_ | ((with_reducible refine bl_step (by assumption) ?_ ?_); (focus (first | (simp; done) | (simp; omega) | omega)))))⟩

end Go.Proofs.Ytmjafclpeknpcaa
/- Walks of functions of the program, printed by a program of the prover. -/
namespace Go.Proofs.Ytmjafclpeknpcaa
open Go.ChangeShapes Go.WideShapes Go.ChangeAt Go.RowKit Go.Deep
set_option maxHeartbeats 3200000
set_option maxRecDepth 100000

theorem headOk_seen {num base time : Int} {l : List MarkT} (h : headOk num base time l = true) : seenOk l = true := by
  unfold headOk at h
  simp only [Bool.and_eq_true] at h
  exact h.2.2.2.2.1
theorem headOk_nums {num base time : Int} {l : List MarkT} (h : headOk num base time l = true) : inI64 num ∧ inI64 base ∧ inI64 time := by
  unfold headOk inB at h
  simp only [Bool.and_eq_true, decide_eq_true_eq] at h
  unfold inI64
  omega
theorem c_impl_HeadRow_y (num base time : Int) (ao : Option Addr) (cap : Nat) (l : List MarkT) (w : World) (hl : ReadA markE w ao l) (hO : headOk num base time l = true) :
    Calls Try.prog 71 #[.agg #[.int .i64 num, .int .i64 base, .int .i64 time, .slice ao l.length cap]] w (RetI w 2 (headRow num base time l)) := by
  obtain ⟨i0, hi, hz0, hz1, hz2⟩ := info_parts info_int64
  obtain ⟨yn, yb, yt⟩ := headOk_nums hO
  have hlen := seenOk_len (headOk_seen hO)
  have HS := Lib.hid (headOk_seen hO)
  have HO := Lib.hid hO
  have HMk : Hid (∀ c, inI64 (markOf l c).2.1 ∧ inI64 (markOf l c).2.2) := fun c => (markOf_ok hl.1 c).2
  have HL : Hid (∀ V, Below w.heap.size w V → ReadA markE V ao l) := fun V hb => hl.below hb
  clear hl hO
  go_enter Try.func71, Try.ntmps71
  go_wp2_with fail
  refine (c_impl_HeadOk num base time ao cap l _ (HL.out _ (by (repeat (first | with_reducible exact Below.refl _ _ | ((with_reducible refine bl_alloc ?_ ?_); (focus (first | (simp; done) | (simp; omega) | omega))) | ((with_reducible refine bl_set ?_ ?_); (focus (first | (simp; done) | (simp; omega) | omega))) | ((with_reducible refine bl_later ?_ ?_); (focus (first | (simp; done) | (simp; omega) | omega))) | with_reducible refine bl_drew ?_ | with_reducible refine bl_drewN ?_ | ((with_reducible refine bl_step (by assumption) ?_ ?_); (focus (first | (simp; done) | (simp; omega) | omega)))))))).mono ?_
  rw [HO.out]
  rintro e w1 ⟨rfl, hb1⟩
  have hz1' := hb1.size
  simp only [World.size_alloc] at hz1'
  have hB1 : Below w.heap.size w w1 := by (repeat (first | with_reducible exact Below.refl _ _ | ((with_reducible refine bl_alloc ?_ ?_); (focus (first | (simp; done) | (simp; omega) | omega))) | ((with_reducible refine bl_set ?_ ?_); (focus (first | (simp; done) | (simp; omega) | omega))) | ((with_reducible refine bl_later ?_ ?_); (focus (first | (simp; done) | (simp; omega) | omega))) | with_reducible refine bl_drew ?_ | with_reducible refine bl_drewN ?_ | ((with_reducible refine bl_step (by assumption) ?_ ?_); (focus (first | (simp; done) | (simp; omega) | omega)))))
  have HQ := Lib.hid (((Bx.new w [.int .i64 num, .int .i64 base, .int .i64 time, .slice ao l.length cap] 61).below hb1).alloc (.cells (([num, base, time] : List Int).map (Value.int .i64)).toArray 2))
  have Hst := Lib.hid (owns_lit w1 w1.heap.size 2 [num, base, time] (Nat.le_refl _) (by simp) (by simp [yn, yb, yt]))
  have hq0 := fun (o : Nat) => hb1.cell (p := ⟨w.heap.size, o, none⟩) (by (first | (simp; done) | (simp; omega) | omega))
  have hB2 := hB1.alloc hB1.size (.cells (([num, base, time] : List Int).map (Value.int .i64)).toArray 2)
  clear hb1
  go_wp2_with fail
  clear hq0
  go_loopw [3, 4] (fun v i wr => ∃ (j : Nat) (L : List Int) (ao' : Option Addr) (cap' : Nat), j ≤ 4 ∧ i = .int .i64 ((j : Int) + 2) ∧ v = .slice ao' L.length cap' ∧ Hid (L.length = 3 + 2 * j) ∧ Hid (L = [num, base, time] ++ headMid l j) ∧ Hid (IntsO wr w1.heap.size 2 (.slice ao' L.length cap') L) ∧ Hid (Bx wr w.heap.size [.int .i64 num, .int .i64 base, .int .i64 time, .slice ao l.length cap]) ∧ w1.heap.size ≤ wr.heap.size ∧ Below w.heap.size w wr) (fun _ i _ => 6 - (intOf i).toNat)
  case atStart => exact ⟨0, [num, base, time], _, _, by omega, rfl, rfl, rfl, rfl, Hst, HQ, by simp, hB2⟩
  case round =>
    clear HQ Hst hB1 hB2
    obtain ⟨j, L, ao', cap', hj, rfl, rfl, HLl, HLr, Hown, HQ, hw1, hbel⟩ := hrel
    have q0 := HQ.out.2
    have p0 := HQ.out.1
    have hsz := hbel.size
    have hLb : L.length ≤ 11 := by have := HLl.out; omega
    by_cases hlt : j < 4
    · have hle : decide ((j : Int) + 2 ≤ 5) = true := decide_eq_true (by omega)
      have hle2 : (j : Int) + 2 ≤ 5 := by omega
      go_wp2_with fail
      refine (c_impl_markOf ao cap l ((j : Int) + 2) _ (HL.out _ hbel)).mono ?_
      obtain ⟨⟨mc, ms, mx⟩, HM⟩ : ∃ m, Hid (markOf l ((j : Int) + 2) = m) := ⟨_, Lib.hid rfl⟩
      have hmi := HMk.out ((j : Int) + 2)
      rw [HM.out] at hmi ⊢
      obtain ⟨ym, yx⟩ := hmi
      simp only at ym yx
      rintro e w2 ⟨rfl, hb2⟩
      have hz2' := hb2.size
      have hlo := Hown.out.2.2.1
      have Hap := Lib.hid Hown.out.2.2.lt
      have Hlit := Lib.hid (lit_read w2 (.cells #[.int .i64 mc, .int .i64 ms, .int .i64 mx] 127) 2 [ms, mx] (by simp) (by simp [ym, yx]))
      have hbq : Below w2.heap.size w2 ((w2.alloc (.cells #[.int .i64 mc, .int .i64 ms, .int .i64 mx] 127)).alloc (.cells (([ms, mx] : List Int).map (Value.int .i64)).toArray 2)) := by (repeat (first | with_reducible exact Below.refl _ _ | ((with_reducible refine bl_alloc ?_ ?_); (focus (first | (simp; done) | (simp; omega) | omega))) | ((with_reducible refine bl_set ?_ ?_); (focus (first | (simp; done) | (simp; omega) | omega))) | ((with_reducible refine bl_later ?_ ?_); (focus (first | (simp; done) | (simp; omega) | omega))) | with_reducible refine bl_drew ?_ | with_reducible refine bl_drewN ?_ | ((with_reducible refine bl_step (by assumption) ?_ ?_); (focus (first | (simp; done) | (simp; omega) | omega)))))
      have Ho2 := Lib.hid ((Hown.out.below hb2).below hbq)
      have HQ2 := Lib.hid ((HQ.out.below hb2).below hbq)
      have hB3 : Below w.heap.size w ((w2.alloc (.cells #[.int .i64 mc, .int .i64 ms, .int .i64 mx] 127)).alloc (.cells (([ms, mx] : List Int).map (Value.int .i64)).toArray 2)) := bl_step hbq (by omega) (bl_step hb2 hsz hbel)
      have HB3 := Lib.hid hB3
      clear hbq hlo hB3
      go_wp2_with (at_builtin; refine wpList_append_ints rfl _ _ _ rfl w1.heap.size 2 i0 Try.underlying85 hi hz0 hz1 hz2 _ _ _ _ L [ms, mx] rfl Ho2.out rfl Hlit.out (by simp; omega) (by (first | (simp; done) | (simp; omega) | omega)) (fun a3 c3 w3 ho3 hg3 => ?_))
      have HX : Hid (L ++ [ms, mx] = [num, base, time] ++ headMid l (j + 1)) := by rw [Hid, HLr.out, headMid_succ, HM.out, List.append_assoc]
      have Ho3 := Lib.hid ho3
      clear ho3
      have hrow : ∀ k, Value.ownBlock (.slice ao' L.length cap') = some k → w1.heap.size ≤ k ∧ k < wr.heap.size := Hap.out
      have HB4 := Lib.hid (HB3.out.grown hg3 HB3.out.size (fun k hk => by have := hrow k hk; omega))
      have HQ3 := Lib.hid (HQ2.out.grown hg3 (fun e => by have := hrow _ e; omega))
      have hg3s := hg3.size
      simp only [World.size_alloc] at hg3s
      clear hg3 hrow
      go_wp2_with fail
      go_roundw
      case rel => exact ⟨j + 1, L ++ [ms, mx], a3, c3, by omega, by simp; omega, by simp, by rw [Hid, List.length_append, HLl.out]; simp; omega, HX, Ho3, HQ3, by omega, HB4.out⟩
      case measure => simp [intOf]; omega
    · obtain rfl : j = 4 := by omega
      have hle : decide ((4 : Int) + 2 ≤ 5) = false := by decide
      have hlo := Hown.out.2.2.1
      have Hap := Lib.hid Hown.out.2.2.lt
      have Hlit := Lib.hid (owns_lit wr 0 2 [num, num] (Nat.zero_le _) (by simp) (by simp [yn])).read
      have Ho2 := Lib.hid (Hown.out.below ((Below.refl _ _).alloc (Nat.le_refl _) (.cells (([num, num] : List Int).map (Value.int .i64)).toArray 2)))
      go_wp2_with (at_builtin; refine wpList_append_ints rfl _ _ _ rfl w1.heap.size 2 i0 Try.underlying85 hi hz0 hz1 hz2 _ _ _ _ L [num, num] rfl Ho2.out rfl Hlit.out (by simp; omega) (by (first | (simp; done) | (simp; omega) | omega)) (fun a3 c3 w3 ho3 hg3 => ?_))
      have HX : Hid (headRow num base time l = L ++ [num, num]) := by rw [Hid, HLr.out]; rfl
      have Ho3 := Lib.hid ho3
      clear ho3
      have hrow : ∀ k, Value.ownBlock (.slice ao' L.length cap') = some k → w1.heap.size ≤ k ∧ k < wr.heap.size := Hap.out
      have HB4 := Lib.hid ((hbel.alloc hsz _).grown hg3 (by (first | (simp; done) | (simp; omega) | omega)) (fun k hk => by have := hrow k hk; omega))
      clear hg3 hrow
      go_wp2_with fail
      go_ret
      refine ⟨a3, c3, ?_, ?_, HB4.out⟩
      · rw [HX.out, List.length_append]; rfl
      · rw [HX.out]; exact IntsO.lower Ho3.out (by omega)
theorem c_impl_HeadRow_n (num base time : Int) (ao : Option Addr) (cap : Nat) (l : List MarkT) (w : World) (hl : ReadA markE w ao l) (hO : headOk num base time l = false) :
    Calls Try.prog 71 #[.agg #[.int .i64 num, .int .i64 base, .int .i64 time, .slice ao l.length cap]] w fun e w' => e = .returned (.slice none 0 0) ∧ Below w.heap.size w w' := by
  have HO := Lib.hid hO
  have HL : Hid (∀ V, Below w.heap.size w V → ReadA markE V ao l) := fun V hb => hl.below hb
  clear hl hO
  go_enter Try.func71, Try.ntmps71
  go_wp2_with fail
  refine (c_impl_HeadOk num base time ao cap l _ (HL.out _ (by (repeat (first | with_reducible exact Below.refl _ _ | ((with_reducible refine bl_alloc ?_ ?_); (focus (first | (simp; done) | (simp; omega) | omega))) | ((with_reducible refine bl_set ?_ ?_); (focus (first | (simp; done) | (simp; omega) | omega))) | ((with_reducible refine bl_later ?_ ?_); (focus (first | (simp; done) | (simp; omega) | omega))) | with_reducible refine bl_drew ?_ | with_reducible refine bl_drewN ?_ | ((with_reducible refine bl_step (by assumption) ?_ ?_); (focus (first | (simp; done) | (simp; omega) | omega)))))))).mono ?_
  rw [HO.out]
  rintro e w1 ⟨rfl, hb1⟩
  have hz1 := hb1.size
  simp only [World.size_alloc] at hz1
  go_wp2_with fail
  go_ret
  exact ⟨rfl, by (repeat (first | with_reducible exact Below.refl _ _ | ((with_reducible refine bl_alloc ?_ ?_); (focus (first | (simp; done) | (simp; omega) | omega))) | ((with_reducible refine bl_set ?_ ?_); (focus (first | (simp; done) | (simp; omega) | omega))) | ((with_reducible refine bl_later ?_ ?_); (focus (first | (simp; done) | (simp; omega) | omega))) | with_reducible refine bl_drew ?_ | with_reducible refine bl_drewN ?_ | ((with_reducible refine bl_step (by assumption) ?_ ?_); (focus (first | (simp; done) | (simp; omega) | omega)))))⟩
theorem c_spec_HeadRow_y (num base time : Int) (ao : Option Addr) (cap : Nat) (l : List MarkT) (w : World) (hl : ReadA markE w ao l) (hO : headOk num base time l = true) :
    Calls Try.prog 70 #[.agg #[.int .i64 num, .int .i64 base, .int .i64 time, .slice ao l.length cap]] w (RetI w 2 (headRow num base time l)) := by
  obtain ⟨i0, hi, hz0, hz1, hz2⟩ := info_parts info_int64
  obtain ⟨yn, yb, yt⟩ := headOk_nums hO
  have hlen := seenOk_len (headOk_seen hO)
  have HS := Lib.hid (headOk_seen hO)
  have HO := Lib.hid hO
  have HMk : Hid (∀ c, inI64 (markOf l c).2.1 ∧ inI64 (markOf l c).2.2) := fun c => (markOf_ok hl.1 c).2
  have HL : Hid (∀ V, Below w.heap.size w V → ReadA markE V ao l) := fun V hb => hl.below hb
  clear hl hO
  go_enter Try.func70, Try.ntmps70
  go_wp2_with fail
  refine (c_spec_HeadOk num base time ao cap l _ (HL.out _ (by (repeat (first | with_reducible exact Below.refl _ _ | ((with_reducible refine bl_alloc ?_ ?_); (focus (first | (simp; done) | (simp; omega) | omega))) | ((with_reducible refine bl_set ?_ ?_); (focus (first | (simp; done) | (simp; omega) | omega))) | ((with_reducible refine bl_later ?_ ?_); (focus (first | (simp; done) | (simp; omega) | omega))) | with_reducible refine bl_drew ?_ | with_reducible refine bl_drewN ?_ | ((with_reducible refine bl_step (by assumption) ?_ ?_); (focus (first | (simp; done) | (simp; omega) | omega)))))))).mono ?_
  rw [HO.out]
  rintro e w1 ⟨rfl, hb1⟩
  have hz1' := hb1.size
  simp only [World.size_alloc] at hz1'
  have hB1 : Below w.heap.size w w1 := by (repeat (first | with_reducible exact Below.refl _ _ | ((with_reducible refine bl_alloc ?_ ?_); (focus (first | (simp; done) | (simp; omega) | omega))) | ((with_reducible refine bl_set ?_ ?_); (focus (first | (simp; done) | (simp; omega) | omega))) | ((with_reducible refine bl_later ?_ ?_); (focus (first | (simp; done) | (simp; omega) | omega))) | with_reducible refine bl_drew ?_ | with_reducible refine bl_drewN ?_ | ((with_reducible refine bl_step (by assumption) ?_ ?_); (focus (first | (simp; done) | (simp; omega) | omega)))))
  have HQ := Lib.hid (((Bx.new w [.int .i64 num, .int .i64 base, .int .i64 time, .slice ao l.length cap] 61).below hb1).alloc (.cells (([num, base, time] : List Int).map (Value.int .i64)).toArray 2))
  have Hst := Lib.hid (owns_lit w1 w1.heap.size 2 [num, base, time] (Nat.le_refl _) (by simp) (by simp [yn, yb, yt]))
  have hq0 := fun (o : Nat) => hb1.cell (p := ⟨w.heap.size, o, none⟩) (by (first | (simp; done) | (simp; omega) | omega))
  have hB2 := hB1.alloc hB1.size (.cells (([num, base, time] : List Int).map (Value.int .i64)).toArray 2)
  clear hb1
  go_wp2_with fail
  clear hq0
  go_loopw [3, 4] (fun v i wr => ∃ (j : Nat) (L : List Int) (ao' : Option Addr) (cap' : Nat), j ≤ 4 ∧ i = .int .i64 ((j : Int) + 2) ∧ v = .slice ao' L.length cap' ∧ Hid (L.length = 3 + 2 * j) ∧ Hid (L = [num, base, time] ++ headMid l j) ∧ Hid (IntsO wr w1.heap.size 2 (.slice ao' L.length cap') L) ∧ Hid (Bx wr w.heap.size [.int .i64 num, .int .i64 base, .int .i64 time, .slice ao l.length cap]) ∧ w1.heap.size ≤ wr.heap.size ∧ Below w.heap.size w wr) (fun _ i _ => 6 - (intOf i).toNat)
  case atStart => exact ⟨0, [num, base, time], _, _, by omega, rfl, rfl, rfl, rfl, Hst, HQ, by simp, hB2⟩
  case round =>
    clear HQ Hst hB1 hB2
    obtain ⟨j, L, ao', cap', hj, rfl, rfl, HLl, HLr, Hown, HQ, hw1, hbel⟩ := hrel
    have q0 := HQ.out.2
    have p0 := HQ.out.1
    have hsz := hbel.size
    have hLb : L.length ≤ 11 := by have := HLl.out; omega
    by_cases hlt : j < 4
    · have hle : decide ((j : Int) + 2 ≤ 5) = true := decide_eq_true (by omega)
      have hle2 : (j : Int) + 2 ≤ 5 := by omega
      go_wp2_with fail
      refine (c_spec_MarkOf ao cap l ((j : Int) + 2) _ (HL.out _ hbel) HS.out).mono ?_
      obtain ⟨⟨mc, ms, mx⟩, HM⟩ : ∃ m, Hid (markOf l ((j : Int) + 2) = m) := ⟨_, Lib.hid rfl⟩
      have hmi := HMk.out ((j : Int) + 2)
      rw [HM.out] at hmi ⊢
      obtain ⟨ym, yx⟩ := hmi
      simp only at ym yx
      rintro e w2 ⟨rfl, hb2⟩
      have hz2' := hb2.size
      have hlo := Hown.out.2.2.1
      have Hap := Lib.hid Hown.out.2.2.lt
      have Hlit := Lib.hid (lit_read w2 (.cells #[.int .i64 mc, .int .i64 ms, .int .i64 mx] 127) 2 [ms, mx] (by simp) (by simp [ym, yx]))
      have hbq : Below w2.heap.size w2 ((w2.alloc (.cells #[.int .i64 mc, .int .i64 ms, .int .i64 mx] 127)).alloc (.cells (([ms, mx] : List Int).map (Value.int .i64)).toArray 2)) := by (repeat (first | with_reducible exact Below.refl _ _ | ((with_reducible refine bl_alloc ?_ ?_); (focus (first | (simp; done) | (simp; omega) | omega))) | ((with_reducible refine bl_set ?_ ?_); (focus (first | (simp; done) | (simp; omega) | omega))) | ((with_reducible refine bl_later ?_ ?_); (focus (first | (simp; done) | (simp; omega) | omega))) | with_reducible refine bl_drew ?_ | with_reducible refine bl_drewN ?_ | ((with_reducible refine bl_step (by assumption) ?_ ?_); (focus (first | (simp; done) | (simp; omega) | omega)))))
      have Ho2 := Lib.hid ((Hown.out.below hb2).below hbq)
      have HQ2 := Lib.hid ((HQ.out.below hb2).below hbq)
      have hB3 : Below w.heap.size w ((w2.alloc (.cells #[.int .i64 mc, .int .i64 ms, .int .i64 mx] 127)).alloc (.cells (([ms, mx] : List Int).map (Value.int .i64)).toArray 2)) := bl_step hbq (by omega) (bl_step hb2 hsz hbel)
      have HB3 := Lib.hid hB3
      clear hbq hlo hB3
      go_wp2_with (at_builtin; refine wpList_append_ints rfl _ _ _ rfl w1.heap.size 2 i0 Try.underlying85 hi hz0 hz1 hz2 _ _ _ _ L [ms, mx] rfl Ho2.out rfl Hlit.out (by simp; omega) (by (first | (simp; done) | (simp; omega) | omega)) (fun a3 c3 w3 ho3 hg3 => ?_))
      have HX : Hid (L ++ [ms, mx] = [num, base, time] ++ headMid l (j + 1)) := by rw [Hid, HLr.out, headMid_succ, HM.out, List.append_assoc]
      have Ho3 := Lib.hid ho3
      clear ho3
      have hrow : ∀ k, Value.ownBlock (.slice ao' L.length cap') = some k → w1.heap.size ≤ k ∧ k < wr.heap.size := Hap.out
      have HB4 := Lib.hid (HB3.out.grown hg3 HB3.out.size (fun k hk => by have := hrow k hk; omega))
      have HQ3 := Lib.hid (HQ2.out.grown hg3 (fun e => by have := hrow _ e; omega))
      have hg3s := hg3.size
      simp only [World.size_alloc] at hg3s
      clear hg3 hrow
      go_wp2_with fail
      go_roundw
      case rel => exact ⟨j + 1, L ++ [ms, mx], a3, c3, by omega, by simp; omega, by simp, by rw [Hid, List.length_append, HLl.out]; simp; omega, HX, Ho3, HQ3, by omega, HB4.out⟩
      case measure => simp [intOf]; omega
    · obtain rfl : j = 4 := by omega
      have hle : decide ((4 : Int) + 2 ≤ 5) = false := by decide
      have hlo := Hown.out.2.2.1
      have Hap := Lib.hid Hown.out.2.2.lt
      have Hlit := Lib.hid (owns_lit wr 0 2 [num, num] (Nat.zero_le _) (by simp) (by simp [yn])).read
      have Ho2 := Lib.hid (Hown.out.below ((Below.refl _ _).alloc (Nat.le_refl _) (.cells (([num, num] : List Int).map (Value.int .i64)).toArray 2)))
      go_wp2_with (at_builtin; refine wpList_append_ints rfl _ _ _ rfl w1.heap.size 2 i0 Try.underlying85 hi hz0 hz1 hz2 _ _ _ _ L [num, num] rfl Ho2.out rfl Hlit.out (by simp; omega) (by (first | (simp; done) | (simp; omega) | omega)) (fun a3 c3 w3 ho3 hg3 => ?_))
      have HX : Hid (headRow num base time l = L ++ [num, num]) := by rw [Hid, HLr.out]; rfl
      have Ho3 := Lib.hid ho3
      clear ho3
      have hrow : ∀ k, Value.ownBlock (.slice ao' L.length cap') = some k → w1.heap.size ≤ k ∧ k < wr.heap.size := Hap.out
      have HB4 := Lib.hid ((hbel.alloc hsz _).grown hg3 (by (first | (simp; done) | (simp; omega) | omega)) (fun k hk => by have := hrow k hk; omega))
      clear hg3 hrow
      go_wp2_with fail
      go_ret
      refine ⟨a3, c3, ?_, ?_, HB4.out⟩
      · rw [HX.out, List.length_append]; rfl
      · rw [HX.out]; exact IntsO.lower Ho3.out (by omega)
theorem c_spec_HeadRow_n (num base time : Int) (ao : Option Addr) (cap : Nat) (l : List MarkT) (w : World) (hl : ReadA markE w ao l) (hO : headOk num base time l = false) :
    Calls Try.prog 70 #[.agg #[.int .i64 num, .int .i64 base, .int .i64 time, .slice ao l.length cap]] w (RetI w 2 []) := by
  have HO := Lib.hid hO
  have HL : Hid (∀ V, Below w.heap.size w V → ReadA markE V ao l) := fun V hb => hl.below hb
  clear hl hO
  go_enter Try.func70, Try.ntmps70
  go_wp2_with fail
  refine (c_spec_HeadOk num base time ao cap l _ (HL.out _ (by (repeat (first | with_reducible exact Below.refl _ _ | ((with_reducible refine bl_alloc ?_ ?_); (focus (first | (simp; done) | (simp; omega) | omega))) | ((with_reducible refine bl_set ?_ ?_); (focus (first | (simp; done) | (simp; omega) | omega))) | ((with_reducible refine bl_later ?_ ?_); (focus (first | (simp; done) | (simp; omega) | omega))) | with_reducible refine bl_drew ?_ | with_reducible refine bl_drewN ?_ | ((with_reducible refine bl_step (by assumption) ?_ ?_); (focus (first | (simp; done) | (simp; omega) | omega)))))))).mono ?_
  rw [HO.out]
  rintro e w1 ⟨rfl, hb1⟩
  have hz1 := hb1.size
  simp only [World.size_alloc] at hz1
  go_wp2_with fail
  go_ret
  exact ⟨_, _, rfl, IntsO.lower (owns_empty w1 _ _ (Nat.le_refl _)) (by omega), by (repeat (first | with_reducible exact Below.refl _ _ | ((with_reducible refine bl_alloc ?_ ?_); (focus (first | (simp; done) | (simp; omega) | omega))) | ((with_reducible refine bl_set ?_ ?_); (focus (first | (simp; done) | (simp; omega) | omega))) | ((with_reducible refine bl_later ?_ ?_); (focus (first | (simp; done) | (simp; omega) | omega))) | with_reducible refine bl_drew ?_ | with_reducible refine bl_drewN ?_ | ((with_reducible refine bl_step (by assumption) ?_ ?_); (focus (first | (simp; done) | (simp; omega) | omega)))))⟩

end Go.Proofs.Ytmjafclpeknpcaa
/- Walks of functions of the program, printed by a program of the prover. -/
namespace Go.Proofs.Ytmjafclpeknpcaa
open Go.ChangeShapes Go.WideShapes Go.ChangeAt Go.RowKit Go.Deep
set_option maxHeartbeats 3200000
set_option maxRecDepth 100000

def keptHeadF (d e : DiskT) (num base time : Int) (l : List MarkT) : (DiskT × DiskT) × Bool := keptRowF d e (num % 2) (if headOk num base time l then some (headRow num base time l) else none)
theorem keptHeadF_y {d e : DiskT} {num base time : Int} {l : List MarkT} (h : headOk num base time l = true) : keptHeadF d e num base time l = keptRowF d e (num % 2) (some (headRow num base time l)) := by unfold keptHeadF; rw [h]; rfl
theorem keptHeadF_n {d e : DiskT} {num base time : Int} {l : List MarkT} (h : headOk num base time l = false) : keptHeadF d e num base time l = keptRowF d e (num % 2) none := by unfold keptHeadF; rw [h]; rfl
theorem keptRowF_none_any (d e : DiskT) (x y : Int) : keptRowF d e x none = keptRowF d e y none := rfl
theorem length_headRow (num base time : Int) (l : List MarkT) : (headRow num base time l).length = 13 := by simp [headRow, length_headMid]
theorem headOk_num {num base time : Int} {l : List MarkT} (h : headOk num base time l = true) : 0 ≤ num ∧ num ≤ 2000 := by
  unfold headOk inB at h
  simp only [Bool.and_eq_true, decide_eq_true_eq] at h
  omega
theorem c_impl_KeptHead (ak aw bk bw : Option Addr) (ck cw dk dw : Nat) (d e : DiskT) (num base time : Int) (am : Option Addr) (cm : Nat) (l : List MarkT) (w : World) (h : DiskR w ak aw d) (h2 : DiskR w bk bw e) (hm : ReadA markE w am l) :
    Calls Try.prog 28 #[.agg #[.slice ak d.1.length ck, .slice aw d.2.length cw, .slice bk e.1.length dk, .slice bw e.2.length dw], .agg #[.int .i64 num, .int .i64 base, .int .i64 time, .slice am l.length cm]] w (RetTwo w (keptHeadF d e num base time l)) := by
  have HD : Hid (∀ V, Below w.heap.size w V → DiskR V ak aw d) := fun V hb => h.below hb
  have HE : Hid (∀ V, Below w.heap.size w V → DiskR V bk bw e) := fun V hb => h2.below hb
  clear h h2
  have HM : Hid (∀ V, Below w.heap.size w V → ReadA markE V am l) := fun V hb => hm.below hb
  clear hm
  cases hE : headOk num base time l
  · have HEn : Hid (keptHeadF d e num base time l = keptRowF d e (num.tmod 2) none) := (keptHeadF_n (d := d) (e := e) hE).trans (keptRowF_none_any d e _ _)
    have HE0 := Lib.hid hE
    clear hE
    go_enter Try.func28, Try.ntmps28
    go_wp2_with fail
    refine restK_begin [9] (by kernel_rfl) ?_
    refine restK_take (v := ?_) 0 rfl (by kernel_rfl) (by kernel_rfl) (by kernel_rfl) (by kernel_rfl) (by kernel_rfl) (by kernel_rfl) (fun _ _ _ h => h) (by rfl) ?_ ?_
    rotate_left
    · intro w9 h9; try dsimp only at h9
      obtain ⟨x9, rfl⟩ := later_of h9
      go_simp; try with_reducible rfl
    try simp only [Act.put, List.setIfInBounds_toArray, List.set_cons_zero, List.set_cons_succ]
    refine restK_pure (v := ?_) 1 rfl (by kernel_rfl) (by kernel_rfl) (by kernel_rfl) (by kernel_rfl) (fun _ _ _ h => h) (by rfl) ?_ ?_
    rotate_left
    · intro w9; go_simp; try with_reducible rfl
    try simp only [Act.put, List.setIfInBounds_toArray, List.set_cons_zero, List.set_cons_succ]
    refine restK_take (v := ?_) 2 rfl (by kernel_rfl) (by kernel_rfl) (by kernel_rfl) (by kernel_rfl) (by kernel_rfl) (by kernel_rfl) (fun _ _ _ h => h) (by rfl) ?_ ?_
    rotate_left
    · intro w9 h9; try dsimp only at h9
      obtain ⟨x9, rfl⟩ := later_of h9
      go_simp; try with_reducible rfl
    try simp only [Act.put, List.setIfInBounds_toArray, List.set_cons_zero, List.set_cons_succ]
    refine restK_pure (v := ?_) 3 rfl (by kernel_rfl) (by kernel_rfl) (by kernel_rfl) (by kernel_rfl) (fun _ _ _ h => h) (by rfl) ?_ ?_
    rotate_left
    · intro w9; go_simp; try with_reducible rfl
    try simp only [Act.put, List.setIfInBounds_toArray, List.set_cons_zero, List.set_cons_succ]
    refine restK_take (v := ?_) 4 rfl (by kernel_rfl) (by kernel_rfl) (by kernel_rfl) (by kernel_rfl) (by kernel_rfl) (by kernel_rfl) (fun _ _ _ h => h) (by rfl) ?_ ?_
    rotate_left
    · intro w9 h9; try dsimp only at h9
      obtain ⟨x9, rfl⟩ := later_of h9
      go_simp; try with_reducible rfl
    try simp only [Act.put, List.setIfInBounds_toArray, List.set_cons_zero, List.set_cons_succ]
    refine restK_alone 5 rfl (by kernel_rfl) (by rfl) (fun hS K hK => ?_)
    go_wp2_with fail
    refine (c_impl_HeadRow_n num base time am cm l _ (HM.out _ (by (repeat (first | with_reducible exact Below.refl _ _ | ((with_reducible refine bl_alloc ?_ ?_); (focus (first | (simp; done) | (simp; omega) | omega))) | ((with_reducible refine bl_set ?_ ?_); (focus (first | (simp; done) | (simp; omega) | omega))) | ((with_reducible refine bl_later ?_ ?_); (focus (first | (simp; done) | (simp; omega) | omega))) | with_reducible refine bl_drew ?_ | with_reducible refine bl_drewN ?_ | ((with_reducible refine bl_step (by assumption) ?_ ?_); (focus (first | (simp; done) | (simp; omega) | omega))))))) HE0.out).mono ?_
    rintro e5 w5 ⟨rfl, hb5⟩
    have hS5 := bl_step hb5 hS.size hS
    have hz5 := hb5.size
    simp only [World.size_drew, World.size_alloc] at hz5
    refine hK.out _ _ (hS5) ?_
    try simp only [Act.put, List.setIfInBounds_toArray, List.set_cons_zero, List.set_cons_succ]
    clear hK K hS
    clear hb5
    refine restK_alone 6 rfl (by kernel_rfl) (by rfl) (fun hS K hK => ?_)
    go_wp2_with fail
    refine (c_impl_keptRow_none ak aw bk bw ck cw dk dw d e _ _ (HD.out _ (by (repeat (first | with_reducible exact Below.refl _ _ | ((with_reducible refine bl_alloc ?_ ?_); (focus (first | (simp; done) | (simp; omega) | omega))) | ((with_reducible refine bl_set ?_ ?_); (focus (first | (simp; done) | (simp; omega) | omega))) | ((with_reducible refine bl_later ?_ ?_); (focus (first | (simp; done) | (simp; omega) | omega))) | with_reducible refine bl_drew ?_ | with_reducible refine bl_drewN ?_ | ((with_reducible refine bl_step (by assumption) ?_ ?_); (focus (first | (simp; done) | (simp; omega) | omega))))))) (HE.out _ (by (repeat (first | with_reducible exact Below.refl _ _ | ((with_reducible refine bl_alloc ?_ ?_); (focus (first | (simp; done) | (simp; omega) | omega))) | ((with_reducible refine bl_set ?_ ?_); (focus (first | (simp; done) | (simp; omega) | omega))) | ((with_reducible refine bl_later ?_ ?_); (focus (first | (simp; done) | (simp; omega) | omega))) | with_reducible refine bl_drew ?_ | with_reducible refine bl_drewN ?_ | ((with_reducible refine bl_step (by assumption) ?_ ?_); (focus (first | (simp; done) | (simp; omega) | omega)))))))).mono ?_
    rintro e6 w6 ⟨b1, k1, b2, k2, b3, k3, b4, k4, rfl, hs6, hb6⟩
    have hS6 := bl_step hb6 hS.size hS
    have hz6 := hb6.size
    have Hs6 := Lib.hid hs6
    clear hs6
    refine hK.out _ _ (hS6) ?_
    try simp only [Act.put, List.setIfInBounds_toArray, List.set_cons_zero, List.set_cons_succ]
    clear hK K hS
    clear hb6
    refine restK_pure (v := ?_) 7 rfl (by kernel_rfl) (by kernel_rfl) (by kernel_rfl) (by kernel_rfl) (fun _ _ _ h => h) (by rfl) ?_ ?_
    rotate_left
    · intro w9; go_simp; try with_reducible rfl
    try simp only [Act.put, List.setIfInBounds_toArray, List.set_cons_zero, List.set_cons_succ]
    refine restK_pure (v := ?_) 8 rfl (by kernel_rfl) (by kernel_rfl) (by kernel_rfl) (by kernel_rfl) (fun _ _ _ h => h) (by rfl) ?_ ?_
    rotate_left
    · intro w9; go_simp; try with_reducible rfl
    try simp only [Act.put, List.setIfInBounds_toArray, List.set_cons_zero, List.set_cons_succ]
    refine restK_break 9 rfl (by kernel_rfl) (by rfl) (by kernel_rfl) (fun hS K hK => ?_)
    have hcr0 := fun (o : Nat) => hS.cell (p := ⟨w.heap.size + 1 + 1, o, none⟩) (by (first | (simp; done) | (simp; omega) | omega))
    have hfr0 := fun (o : Nat) => hS.frozen (p := ⟨w.heap.size + 1 + 1, o, none⟩) (by (first | (simp; done) | (simp; omega) | omega))
    have HBw : Hid (Below w.heap.size w w6) := by unfold Hid; (repeat (first | with_reducible exact Below.refl _ _ | ((with_reducible refine bl_alloc ?_ ?_); (focus (first | (simp; done) | (simp; omega) | omega))) | ((with_reducible refine bl_set ?_ ?_); (focus (first | (simp; done) | (simp; omega) | omega))) | ((with_reducible refine bl_later ?_ ?_); (focus (first | (simp; done) | (simp; omega) | omega))) | with_reducible refine bl_drew ?_ | with_reducible refine bl_drewN ?_ | ((with_reducible refine bl_step (by assumption) ?_ ?_); (focus (first | (simp; done) | (simp; omega) | omega)))))
    go_wp2_with fail
    refine hK.out _ _ trivial ?_
    try simp only [Act.put, List.setIfInBounds_toArray, List.set_cons_zero, List.set_cons_succ]
    clear hK K hS
    refine rest_take (v := ?_) 10 rfl (by kernel_rfl) (by kernel_rfl) (by kernel_rfl) (fun _ _ _ h => h) (by rfl) ?_ ?_
    rotate_left
    · intro w9; go_simp; try with_reducible rfl
    try simp only [Act.put, List.setIfInBounds_toArray, List.set_cons_zero, List.set_cons_succ]
    refine rest_done (by kernel_rfl) ?_
    go_wp2_with fail
    have hBw := HBw.out
    refine bodyPost_ret (v := .tuple #[.agg #[.slice b1 (keptRowF d e (num.tmod 2) none).1.1.1.length k1, .slice b2 (keptRowF d e (num.tmod 2) none).1.1.2.length k2, .slice b3 (keptRowF d e (num.tmod 2) none).1.2.1.length k3, .slice b4 (keptRowF d e (num.tmod 2) none).1.2.2.length k4], .bool (keptRowF d e (num.tmod 2) none).2]) (by simp [results, Try.results28, go_sem, *]) rfl ⟨b1, k1, b2, k2, b3, k3, b4, k4, ?_, ?_, ?_⟩
    · rw [HEn.out]
    · rw [HEn.out]
      exact (Hs6.out.kp (by clear hBw; (repeat (first | with_reducible exact kp_refl | ((with_reducible refine kp_alloc ?_ ?_); (focus (first | (simp; done) | (simp; omega) | omega))) | ((with_reducible refine kp_set ?_ ?_); (focus (first | (simp; done) | (simp; omega) | omega))) | with_reducible refine kp_drew ?_ | with_reducible refine kp_drewN ?_ | ((with_reducible refine kp_step (by assumption) ?_ ?_); (focus (first | (simp; done) | (simp; omega) | omega))))))).wide (by have := hBw.size; omega) (by (first | (simp; done) | (simp; omega) | omega))
    · (repeat (first | with_reducible exact Below.refl _ _ | ((with_reducible refine bl_alloc ?_ ?_); (focus (first | (simp; done) | (simp; omega) | omega))) | ((with_reducible refine bl_set ?_ ?_); (focus (first | (simp; done) | (simp; omega) | omega))) | ((with_reducible refine bl_later ?_ ?_); (focus (first | (simp; done) | (simp; omega) | omega))) | with_reducible refine bl_drew ?_ | with_reducible refine bl_drewN ?_ | ((with_reducible refine bl_step (by assumption) ?_ ?_); (focus (first | (simp; done) | (simp; omega) | omega)))))
  · have HEn := Lib.hid (keptHeadF_y (d := d) (e := e) hE)
    have HE0 := Lib.hid hE
    obtain ⟨hn0, hn1⟩ := headOk_num hE
    clear hE
    go_enter Try.func28, Try.ntmps28
    go_wp2_with fail
    refine restK_begin [9] (by kernel_rfl) ?_
    refine restK_take (v := ?_) 0 rfl (by kernel_rfl) (by kernel_rfl) (by kernel_rfl) (by kernel_rfl) (by kernel_rfl) (by kernel_rfl) (fun _ _ _ h => h) (by rfl) ?_ ?_
    rotate_left
    · intro w9 h9; try dsimp only at h9
      obtain ⟨x9, rfl⟩ := later_of h9
      go_simp; try with_reducible rfl
    try simp only [Act.put, List.setIfInBounds_toArray, List.set_cons_zero, List.set_cons_succ]
    refine restK_pure (v := ?_) 1 rfl (by kernel_rfl) (by kernel_rfl) (by kernel_rfl) (by kernel_rfl) (fun _ _ _ h => h) (by rfl) ?_ ?_
    rotate_left
    · intro w9; go_simp; try with_reducible rfl
    try simp only [Act.put, List.setIfInBounds_toArray, List.set_cons_zero, List.set_cons_succ]
    refine restK_take (v := ?_) 2 rfl (by kernel_rfl) (by kernel_rfl) (by kernel_rfl) (by kernel_rfl) (by kernel_rfl) (by kernel_rfl) (fun _ _ _ h => h) (by rfl) ?_ ?_
    rotate_left
    · intro w9 h9; try dsimp only at h9
      obtain ⟨x9, rfl⟩ := later_of h9
      go_simp; try with_reducible rfl
    try simp only [Act.put, List.setIfInBounds_toArray, List.set_cons_zero, List.set_cons_succ]
    refine restK_pure (v := ?_) 3 rfl (by kernel_rfl) (by kernel_rfl) (by kernel_rfl) (by kernel_rfl) (fun _ _ _ h => h) (by rfl) ?_ ?_
    rotate_left
    · intro w9; go_simp; try with_reducible rfl
    try simp only [Act.put, List.setIfInBounds_toArray, List.set_cons_zero, List.set_cons_succ]
    refine restK_take (v := ?_) 4 rfl (by kernel_rfl) (by kernel_rfl) (by kernel_rfl) (by kernel_rfl) (by kernel_rfl) (by kernel_rfl) (fun _ _ _ h => h) (by rfl) ?_ ?_
    rotate_left
    · intro w9 h9; try dsimp only at h9
      obtain ⟨x9, rfl⟩ := later_of h9
      go_simp; try with_reducible rfl
    try simp only [Act.put, List.setIfInBounds_toArray, List.set_cons_zero, List.set_cons_succ]
    refine restK_alone 5 rfl (by kernel_rfl) (by rfl) (fun hS K hK => ?_)
    go_wp2_with fail
    refine (c_impl_HeadRow_y num base time am cm l _ (HM.out _ (by (repeat (first | with_reducible exact Below.refl _ _ | ((with_reducible refine bl_alloc ?_ ?_); (focus (first | (simp; done) | (simp; omega) | omega))) | ((with_reducible refine bl_set ?_ ?_); (focus (first | (simp; done) | (simp; omega) | omega))) | ((with_reducible refine bl_later ?_ ?_); (focus (first | (simp; done) | (simp; omega) | omega))) | with_reducible refine bl_drew ?_ | with_reducible refine bl_drewN ?_ | ((with_reducible refine bl_step (by assumption) ?_ ?_); (focus (first | (simp; done) | (simp; omega) | omega))))))) HE0.out).mono ?_
    rintro e5 w5 ⟨a5, c5, rfl, ho5, hb5⟩
    have hS5 := bl_step hb5 hS.size hS
    have hz5 := hb5.size
    simp only [World.size_drew, World.size_alloc] at hz5 ho5
    obtain ⟨g5, rfl⟩ := ints_some ho5 (by rw [length_headRow]; decide)
    have Ho5 := Lib.hid ho5
    clear ho5
    refine hK.out _ _ (hS5) ?_
    try simp only [Act.put, List.setIfInBounds_toArray, List.set_cons_zero, List.set_cons_succ]
    clear hK K hS
    clear hb5
    refine restK_alone 6 rfl (by kernel_rfl) (by rfl) (fun hS K hK => ?_)
    go_wp2_with fail
    refine (c_impl_keptRow_some ak aw bk bw ck cw dk dw d e (num % 2) ⟨g5, 0, none⟩ c5 (headRow num base time l) _ (HD.out _ (by (repeat (first | with_reducible exact Below.refl _ _ | ((with_reducible refine bl_alloc ?_ ?_); (focus (first | (simp; done) | (simp; omega) | omega))) | ((with_reducible refine bl_set ?_ ?_); (focus (first | (simp; done) | (simp; omega) | omega))) | ((with_reducible refine bl_later ?_ ?_); (focus (first | (simp; done) | (simp; omega) | omega))) | with_reducible refine bl_drew ?_ | with_reducible refine bl_drewN ?_ | ((with_reducible refine bl_step (by assumption) ?_ ?_); (focus (first | (simp; done) | (simp; omega) | omega))))))) (HE.out _ (by (repeat (first | with_reducible exact Below.refl _ _ | ((with_reducible refine bl_alloc ?_ ?_); (focus (first | (simp; done) | (simp; omega) | omega))) | ((with_reducible refine bl_set ?_ ?_); (focus (first | (simp; done) | (simp; omega) | omega))) | ((with_reducible refine bl_later ?_ ?_); (focus (first | (simp; done) | (simp; omega) | omega))) | with_reducible refine bl_drew ?_ | with_reducible refine bl_drewN ?_ | ((with_reducible refine bl_step (by assumption) ?_ ?_); (focus (first | (simp; done) | (simp; omega) | omega))))))) Ho5.out.read).mono ?_
    rintro e6 w6 ⟨b1, k1, b2, k2, b3, k3, b4, k4, rfl, hs6, hb6⟩
    have hS6 := bl_step hb6 hS.size hS
    have hz6 := hb6.size
    have Hs6 := Lib.hid hs6
    clear hs6
    refine hK.out _ _ (hS6) ?_
    try simp only [Act.put, List.setIfInBounds_toArray, List.set_cons_zero, List.set_cons_succ]
    clear hK K hS
    clear hb6
    refine restK_pure (v := ?_) 7 rfl (by kernel_rfl) (by kernel_rfl) (by kernel_rfl) (by kernel_rfl) (fun _ _ _ h => h) (by rfl) ?_ ?_
    rotate_left
    · intro w9; go_simp; try with_reducible rfl
    try simp only [Act.put, List.setIfInBounds_toArray, List.set_cons_zero, List.set_cons_succ]
    refine restK_pure (v := ?_) 8 rfl (by kernel_rfl) (by kernel_rfl) (by kernel_rfl) (by kernel_rfl) (fun _ _ _ h => h) (by rfl) ?_ ?_
    rotate_left
    · intro w9; go_simp; try with_reducible rfl
    try simp only [Act.put, List.setIfInBounds_toArray, List.set_cons_zero, List.set_cons_succ]
    refine restK_break 9 rfl (by kernel_rfl) (by rfl) (by kernel_rfl) (fun hS K hK => ?_)
    have hcr0 := fun (o : Nat) => hS.cell (p := ⟨w.heap.size + 1 + 1, o, none⟩) (by (first | (simp; done) | (simp; omega) | omega))
    have hfr0 := fun (o : Nat) => hS.frozen (p := ⟨w.heap.size + 1 + 1, o, none⟩) (by (first | (simp; done) | (simp; omega) | omega))
    have HBw : Hid (Below w.heap.size w w6) := by unfold Hid; (repeat (first | with_reducible exact Below.refl _ _ | ((with_reducible refine bl_alloc ?_ ?_); (focus (first | (simp; done) | (simp; omega) | omega))) | ((with_reducible refine bl_set ?_ ?_); (focus (first | (simp; done) | (simp; omega) | omega))) | ((with_reducible refine bl_later ?_ ?_); (focus (first | (simp; done) | (simp; omega) | omega))) | with_reducible refine bl_drew ?_ | with_reducible refine bl_drewN ?_ | ((with_reducible refine bl_step (by assumption) ?_ ?_); (focus (first | (simp; done) | (simp; omega) | omega)))))
    go_wp2_with fail
    refine hK.out _ _ trivial ?_
    try simp only [Act.put, List.setIfInBounds_toArray, List.set_cons_zero, List.set_cons_succ]
    clear hK K hS
    refine rest_take (v := ?_) 10 rfl (by kernel_rfl) (by kernel_rfl) (by kernel_rfl) (fun _ _ _ h => h) (by rfl) ?_ ?_
    rotate_left
    · intro w9; go_simp; try with_reducible rfl
    try simp only [Act.put, List.setIfInBounds_toArray, List.set_cons_zero, List.set_cons_succ]
    refine rest_done (by kernel_rfl) ?_
    go_wp2_with fail
    have hBw := HBw.out
    refine bodyPost_ret (v := .tuple #[.agg #[.slice b1 (keptRowF d e (num % 2) (some (headRow num base time l))).1.1.1.length k1, .slice b2 (keptRowF d e (num % 2) (some (headRow num base time l))).1.1.2.length k2, .slice b3 (keptRowF d e (num % 2) (some (headRow num base time l))).1.2.1.length k3, .slice b4 (keptRowF d e (num % 2) (some (headRow num base time l))).1.2.2.length k4], .bool (keptRowF d e (num % 2) (some (headRow num base time l))).2]) (by simp [results, Try.results28, go_sem, *]) rfl ⟨b1, k1, b2, k2, b3, k3, b4, k4, ?_, ?_, ?_⟩
    · rw [HEn.out]
    · rw [HEn.out]
      exact (Hs6.out.kp (by clear hBw; (repeat (first | with_reducible exact kp_refl | ((with_reducible refine kp_alloc ?_ ?_); (focus (first | (simp; done) | (simp; omega) | omega))) | ((with_reducible refine kp_set ?_ ?_); (focus (first | (simp; done) | (simp; omega) | omega))) | with_reducible refine kp_drew ?_ | with_reducible refine kp_drewN ?_ | ((with_reducible refine kp_step (by assumption) ?_ ?_); (focus (first | (simp; done) | (simp; omega) | omega))))))).wide (by have := hBw.size; omega) (by (first | (simp; done) | (simp; omega) | omega))
    · (repeat (first | with_reducible exact Below.refl _ _ | ((with_reducible refine bl_alloc ?_ ?_); (focus (first | (simp; done) | (simp; omega) | omega))) | ((with_reducible refine bl_set ?_ ?_); (focus (first | (simp; done) | (simp; omega) | omega))) | ((with_reducible refine bl_later ?_ ?_); (focus (first | (simp; done) | (simp; omega) | omega))) | with_reducible refine bl_drew ?_ | with_reducible refine bl_drewN ?_ | ((with_reducible refine bl_step (by assumption) ?_ ?_); (focus (first | (simp; done) | (simp; omega) | omega)))))
theorem c_spec_KeptHead (ak aw bk bw : Option Addr) (ck cw dk dw : Nat) (d e : DiskT) (num base time : Int) (am : Option Addr) (cm : Nat) (l : List MarkT) (w : World) (h : DiskR w ak aw d) (h2 : DiskR w bk bw e) (hm : ReadA markE w am l) :
    Calls Try.prog 26 #[.agg #[.slice ak d.1.length ck, .slice aw d.2.length cw, .slice bk e.1.length dk, .slice bw e.2.length dw], .agg #[.int .i64 num, .int .i64 base, .int .i64 time, .slice am l.length cm]] w (RetTwo w (keptHeadF d e num base time l)) := by
  have HD : Hid (∀ V, Below w.heap.size w V → DiskR V ak aw d) := fun V hb => h.below hb
  have HE : Hid (∀ V, Below w.heap.size w V → DiskR V bk bw e) := fun V hb => h2.below hb
  clear h h2
  have HM : Hid (∀ V, Below w.heap.size w V → ReadA markE V am l) := fun V hb => hm.below hb
  clear hm
  cases hK : keptOk d e
  · have HK := Lib.hid hK
    clear hK
    go_enter Try.func26, Try.ntmps26
    go_wp2_with fail
    refine (c_spec_KeptOk ak aw bk bw ck cw dk dw d e _ (HD.out _ (by (repeat (first | with_reducible exact Below.refl _ _ | ((with_reducible refine bl_alloc ?_ ?_); (focus (first | (simp; done) | (simp; omega) | omega))) | ((with_reducible refine bl_set ?_ ?_); (focus (first | (simp; done) | (simp; omega) | omega))) | ((with_reducible refine bl_later ?_ ?_); (focus (first | (simp; done) | (simp; omega) | omega))) | with_reducible refine bl_drew ?_ | with_reducible refine bl_drewN ?_ | ((with_reducible refine bl_step (by assumption) ?_ ?_); (focus (first | (simp; done) | (simp; omega) | omega))))))) (HE.out _ (by (repeat (first | with_reducible exact Below.refl _ _ | ((with_reducible refine bl_alloc ?_ ?_); (focus (first | (simp; done) | (simp; omega) | omega))) | ((with_reducible refine bl_set ?_ ?_); (focus (first | (simp; done) | (simp; omega) | omega))) | ((with_reducible refine bl_later ?_ ?_); (focus (first | (simp; done) | (simp; omega) | omega))) | with_reducible refine bl_drew ?_ | with_reducible refine bl_drewN ?_ | ((with_reducible refine bl_step (by assumption) ?_ ?_); (focus (first | (simp; done) | (simp; omega) | omega)))))))).mono ?_
    rw [HK.out]
    rintro en w2 ⟨rfl, hb2⟩
    have hz2 := hb2.size
    simp only [World.size_alloc] at hz2
    have hca0 := fun (o : Nat) => hb2.cell (p := ⟨w.heap.size, o, none⟩) (by (first | (simp; done) | (simp; omega) | omega))
    have hfa0 := fun (o : Nat) => hb2.frozen (p := ⟨w.heap.size, o, none⟩) (by (first | (simp; done) | (simp; omega) | omega))
    have hca1 := fun (o : Nat) => hb2.cell (p := ⟨w.heap.size + 1, o, none⟩) (by (first | (simp; done) | (simp; omega) | omega))
    have hfa1 := fun (o : Nat) => hb2.frozen (p := ⟨w.heap.size + 1, o, none⟩) (by (first | (simp; done) | (simp; omega) | omega))
    have hca2 := fun (o : Nat) => hb2.cell (p := ⟨w.heap.size + 1 + 1, o, none⟩) (by (first | (simp; done) | (simp; omega) | omega))
    have hfa2 := fun (o : Nat) => hb2.frozen (p := ⟨w.heap.size + 1 + 1, o, none⟩) (by (first | (simp; done) | (simp; omega) | omega))
    have hla0 : w.heap.size < w2.heap.size := by omega
    have hla1 : w.heap.size + 1 < w2.heap.size := by omega
    have hla2 : w.heap.size + 1 + 1 < w2.heap.size := by omega
    go_wp2_with fail
    refine bodyPost_ret (v := .tuple #[.agg #[.slice none 0 0, .slice none 0 0, .slice none 0 0, .slice none 0 0], .bool false]) (by simp [results, Try.results26, go_sem, *]) rfl ⟨none, 0, none, 0, none, 0, none, 0, ?_, ?_, ?_⟩
    · rw [show keptHeadF d e num base time l = _ from keptRowF_z _ HK.out]; rfl
    · rw [show keptHeadF d e num base time l = _ from keptRowF_z _ HK.out]
      exact sp_zero _ _ _
    · (repeat (first | with_reducible exact Below.refl _ _ | ((with_reducible refine bl_alloc ?_ ?_); (focus (first | (simp; done) | (simp; omega) | omega))) | ((with_reducible refine bl_set ?_ ?_); (focus (first | (simp; done) | (simp; omega) | omega))) | ((with_reducible refine bl_later ?_ ?_); (focus (first | (simp; done) | (simp; omega) | omega))) | with_reducible refine bl_drew ?_ | with_reducible refine bl_drewN ?_ | ((with_reducible refine bl_step (by assumption) ?_ ?_); (focus (first | (simp; done) | (simp; omega) | omega)))))
  · have HK := Lib.hid hK
    have HT := Lib.hid (keptOk_t hK)
    have HO1 := Lib.hid (twoOk_1 HT.out).1
    have HO2 := Lib.hid (twoOk_1 HT.out).2
    clear hK
    cases hE : headOk num base time l
    · have HE0 := Lib.hid hE
      clear hE
      go_enter Try.func26, Try.ntmps26
      go_wp2_with fail
      refine (c_spec_KeptOk ak aw bk bw ck cw dk dw d e _ (HD.out _ (by (repeat (first | with_reducible exact Below.refl _ _ | ((with_reducible refine bl_alloc ?_ ?_); (focus (first | (simp; done) | (simp; omega) | omega))) | ((with_reducible refine bl_set ?_ ?_); (focus (first | (simp; done) | (simp; omega) | omega))) | ((with_reducible refine bl_later ?_ ?_); (focus (first | (simp; done) | (simp; omega) | omega))) | with_reducible refine bl_drew ?_ | with_reducible refine bl_drewN ?_ | ((with_reducible refine bl_step (by assumption) ?_ ?_); (focus (first | (simp; done) | (simp; omega) | omega))))))) (HE.out _ (by (repeat (first | with_reducible exact Below.refl _ _ | ((with_reducible refine bl_alloc ?_ ?_); (focus (first | (simp; done) | (simp; omega) | omega))) | ((with_reducible refine bl_set ?_ ?_); (focus (first | (simp; done) | (simp; omega) | omega))) | ((with_reducible refine bl_later ?_ ?_); (focus (first | (simp; done) | (simp; omega) | omega))) | with_reducible refine bl_drew ?_ | with_reducible refine bl_drewN ?_ | ((with_reducible refine bl_step (by assumption) ?_ ?_); (focus (first | (simp; done) | (simp; omega) | omega)))))))).mono ?_
      rw [HK.out]
      rintro en w2 ⟨rfl, hb2⟩
      have hz2 := hb2.size
      simp only [World.size_alloc] at hz2
      have hca0 := fun (o : Nat) => hb2.cell (p := ⟨w.heap.size, o, none⟩) (by (first | (simp; done) | (simp; omega) | omega))
      have hfa0 := fun (o : Nat) => hb2.frozen (p := ⟨w.heap.size, o, none⟩) (by (first | (simp; done) | (simp; omega) | omega))
      have hca1 := fun (o : Nat) => hb2.cell (p := ⟨w.heap.size + 1, o, none⟩) (by (first | (simp; done) | (simp; omega) | omega))
      have hfa1 := fun (o : Nat) => hb2.frozen (p := ⟨w.heap.size + 1, o, none⟩) (by (first | (simp; done) | (simp; omega) | omega))
      have hca2 := fun (o : Nat) => hb2.cell (p := ⟨w.heap.size + 1 + 1, o, none⟩) (by (first | (simp; done) | (simp; omega) | omega))
      have hfa2 := fun (o : Nat) => hb2.frozen (p := ⟨w.heap.size + 1 + 1, o, none⟩) (by (first | (simp; done) | (simp; omega) | omega))
      have hla0 : w.heap.size < w2.heap.size := by omega
      have hla1 : w.heap.size + 1 < w2.heap.size := by omega
      have hla2 : w.heap.size + 1 + 1 < w2.heap.size := by omega
      go_wp2_with fail
      refine (c_spec_HeadOk num base time am cm l _ (HM.out _ (by (repeat (first | with_reducible exact Below.refl _ _ | ((with_reducible refine bl_alloc ?_ ?_); (focus (first | (simp; done) | (simp; omega) | omega))) | ((with_reducible refine bl_set ?_ ?_); (focus (first | (simp; done) | (simp; omega) | omega))) | ((with_reducible refine bl_later ?_ ?_); (focus (first | (simp; done) | (simp; omega) | omega))) | with_reducible refine bl_drew ?_ | with_reducible refine bl_drewN ?_ | ((with_reducible refine bl_step (by assumption) ?_ ?_); (focus (first | (simp; done) | (simp; omega) | omega)))))))).mono ?_
      rw [HE0.out]
      rintro en w3 ⟨rfl, hb3⟩
      have hz3 := hb3.size
      have hcb0 := fun (o : Nat) => hb3.cell (p := ⟨w.heap.size, o, none⟩) (by (first | (simp; done) | (simp; omega) | omega))
      have hfb0 := fun (o : Nat) => hb3.frozen (p := ⟨w.heap.size, o, none⟩) (by (first | (simp; done) | (simp; omega) | omega))
      have hcb1 := fun (o : Nat) => hb3.cell (p := ⟨w.heap.size + 1, o, none⟩) (by (first | (simp; done) | (simp; omega) | omega))
      have hfb1 := fun (o : Nat) => hb3.frozen (p := ⟨w.heap.size + 1, o, none⟩) (by (first | (simp; done) | (simp; omega) | omega))
      have hcb2 := fun (o : Nat) => hb3.cell (p := ⟨w.heap.size + 1 + 1, o, none⟩) (by (first | (simp; done) | (simp; omega) | omega))
      have hfb2 := fun (o : Nat) => hb3.frozen (p := ⟨w.heap.size + 1 + 1, o, none⟩) (by (first | (simp; done) | (simp; omega) | omega))
      have hlb0 : w.heap.size < w3.heap.size := by omega
      have hlb1 : w.heap.size + 1 < w3.heap.size := by omega
      have hlb2 : w.heap.size + 1 + 1 < w3.heap.size := by omega
      go_wp2_with fail
      refine (c_spec_l4Copy ak aw bk bw ck cw dk dw d e _ (HD.out _ (by (repeat (first | with_reducible exact Below.refl _ _ | ((with_reducible refine bl_alloc ?_ ?_); (focus (first | (simp; done) | (simp; omega) | omega))) | ((with_reducible refine bl_set ?_ ?_); (focus (first | (simp; done) | (simp; omega) | omega))) | ((with_reducible refine bl_later ?_ ?_); (focus (first | (simp; done) | (simp; omega) | omega))) | with_reducible refine bl_drew ?_ | with_reducible refine bl_drewN ?_ | ((with_reducible refine bl_step (by assumption) ?_ ?_); (focus (first | (simp; done) | (simp; omega) | omega))))))) (HE.out _ (by (repeat (first | with_reducible exact Below.refl _ _ | ((with_reducible refine bl_alloc ?_ ?_); (focus (first | (simp; done) | (simp; omega) | omega))) | ((with_reducible refine bl_set ?_ ?_); (focus (first | (simp; done) | (simp; omega) | omega))) | ((with_reducible refine bl_later ?_ ?_); (focus (first | (simp; done) | (simp; omega) | omega))) | with_reducible refine bl_drew ?_ | with_reducible refine bl_drewN ?_ | ((with_reducible refine bl_step (by assumption) ?_ ?_); (focus (first | (simp; done) | (simp; omega) | omega))))))) (diskOk_B HO1.out) (diskOk_B HO2.out)).mono ?_
      rintro en w9 ⟨b1, k1, b2, k2, b3, k3, b4, k4, rfl, hs9, hb9⟩
      have hz9 := hb9.size
      have Hs9 := Lib.hid hs9
      clear hs9
      have hcz0 := fun (o : Nat) => hb9.cell (p := ⟨w.heap.size + 1 + 1, o, none⟩) (by (first | (simp; done) | (simp; omega) | omega))
      have hfz0 := fun (o : Nat) => hb9.frozen (p := ⟨w.heap.size + 1 + 1, o, none⟩) (by (first | (simp; done) | (simp; omega) | omega))
      have hlz0 : w.heap.size < w9.heap.size := by omega
      have hlz1 : w.heap.size + 1 < w9.heap.size := by omega
      have hlz2 : w.heap.size + 1 + 1 < w9.heap.size := by omega
      go_wp2_with fail
      refine bodyPost_ret (v := .tuple #[.agg #[.slice b1 d.1.length k1, .slice b2 d.2.length k2, .slice b3 e.1.length k3, .slice b4 e.2.length k4], .bool false]) (by simp [results, Try.results26, go_sem, *]) rfl ⟨b1, k1, b2, k2, b3, k3, b4, k4, ?_, ?_, ?_⟩
      · rw [keptHeadF_n HE0.out, keptRowF_none HK.out]
      · rw [keptHeadF_n HE0.out, keptRowF_none HK.out]
        exact (Hs9.out.kp (by (repeat (first | with_reducible exact kp_refl | ((with_reducible refine kp_alloc ?_ ?_); (focus (first | (simp; done) | (simp; omega) | omega))) | ((with_reducible refine kp_set ?_ ?_); (focus (first | (simp; done) | (simp; omega) | omega))) | with_reducible refine kp_drew ?_ | with_reducible refine kp_drewN ?_ | ((with_reducible refine kp_step (by assumption) ?_ ?_); (focus (first | (simp; done) | (simp; omega) | omega))))))).wide (by omega) (by (first | (simp; done) | (simp; omega) | omega))
      · (repeat (first | with_reducible exact Below.refl _ _ | ((with_reducible refine bl_alloc ?_ ?_); (focus (first | (simp; done) | (simp; omega) | omega))) | ((with_reducible refine bl_set ?_ ?_); (focus (first | (simp; done) | (simp; omega) | omega))) | ((with_reducible refine bl_later ?_ ?_); (focus (first | (simp; done) | (simp; omega) | omega))) | with_reducible refine bl_drew ?_ | with_reducible refine bl_drewN ?_ | ((with_reducible refine bl_step (by assumption) ?_ ?_); (focus (first | (simp; done) | (simp; omega) | omega)))))
    · have HEn : Hid (keptHeadF d e num base time l = (bothWroteF d e (num % 2) (headRow num base time l))) := by rw [Hid, keptHeadF_y hE, keptRowF_some HK.out]
      have HE0 := Lib.hid hE
      obtain ⟨hn0, hn1⟩ := headOk_num hE
      clear hE
      go_enter Try.func26, Try.ntmps26
      go_wp2_with fail
      refine (c_spec_KeptOk ak aw bk bw ck cw dk dw d e _ (HD.out _ (by (repeat (first | with_reducible exact Below.refl _ _ | ((with_reducible refine bl_alloc ?_ ?_); (focus (first | (simp; done) | (simp; omega) | omega))) | ((with_reducible refine bl_set ?_ ?_); (focus (first | (simp; done) | (simp; omega) | omega))) | ((with_reducible refine bl_later ?_ ?_); (focus (first | (simp; done) | (simp; omega) | omega))) | with_reducible refine bl_drew ?_ | with_reducible refine bl_drewN ?_ | ((with_reducible refine bl_step (by assumption) ?_ ?_); (focus (first | (simp; done) | (simp; omega) | omega))))))) (HE.out _ (by (repeat (first | with_reducible exact Below.refl _ _ | ((with_reducible refine bl_alloc ?_ ?_); (focus (first | (simp; done) | (simp; omega) | omega))) | ((with_reducible refine bl_set ?_ ?_); (focus (first | (simp; done) | (simp; omega) | omega))) | ((with_reducible refine bl_later ?_ ?_); (focus (first | (simp; done) | (simp; omega) | omega))) | with_reducible refine bl_drew ?_ | with_reducible refine bl_drewN ?_ | ((with_reducible refine bl_step (by assumption) ?_ ?_); (focus (first | (simp; done) | (simp; omega) | omega)))))))).mono ?_
      rw [HK.out]
      rintro en w2 ⟨rfl, hb2⟩
      have hz2 := hb2.size
      simp only [World.size_alloc] at hz2
      have hca0 := fun (o : Nat) => hb2.cell (p := ⟨w.heap.size, o, none⟩) (by (first | (simp; done) | (simp; omega) | omega))
      have hfa0 := fun (o : Nat) => hb2.frozen (p := ⟨w.heap.size, o, none⟩) (by (first | (simp; done) | (simp; omega) | omega))
      have hca1 := fun (o : Nat) => hb2.cell (p := ⟨w.heap.size + 1, o, none⟩) (by (first | (simp; done) | (simp; omega) | omega))
      have hfa1 := fun (o : Nat) => hb2.frozen (p := ⟨w.heap.size + 1, o, none⟩) (by (first | (simp; done) | (simp; omega) | omega))
      have hca2 := fun (o : Nat) => hb2.cell (p := ⟨w.heap.size + 1 + 1, o, none⟩) (by (first | (simp; done) | (simp; omega) | omega))
      have hfa2 := fun (o : Nat) => hb2.frozen (p := ⟨w.heap.size + 1 + 1, o, none⟩) (by (first | (simp; done) | (simp; omega) | omega))
      have hla0 : w.heap.size < w2.heap.size := by omega
      have hla1 : w.heap.size + 1 < w2.heap.size := by omega
      have hla2 : w.heap.size + 1 + 1 < w2.heap.size := by omega
      go_wp2_with fail
      refine (c_spec_HeadOk num base time am cm l _ (HM.out _ (by (repeat (first | with_reducible exact Below.refl _ _ | ((with_reducible refine bl_alloc ?_ ?_); (focus (first | (simp; done) | (simp; omega) | omega))) | ((with_reducible refine bl_set ?_ ?_); (focus (first | (simp; done) | (simp; omega) | omega))) | ((with_reducible refine bl_later ?_ ?_); (focus (first | (simp; done) | (simp; omega) | omega))) | with_reducible refine bl_drew ?_ | with_reducible refine bl_drewN ?_ | ((with_reducible refine bl_step (by assumption) ?_ ?_); (focus (first | (simp; done) | (simp; omega) | omega)))))))).mono ?_
      rw [HE0.out]
      rintro en w3 ⟨rfl, hb3⟩
      have hz3 := hb3.size
      have hcb0 := fun (o : Nat) => hb3.cell (p := ⟨w.heap.size, o, none⟩) (by (first | (simp; done) | (simp; omega) | omega))
      have hfb0 := fun (o : Nat) => hb3.frozen (p := ⟨w.heap.size, o, none⟩) (by (first | (simp; done) | (simp; omega) | omega))
      have hcb1 := fun (o : Nat) => hb3.cell (p := ⟨w.heap.size + 1, o, none⟩) (by (first | (simp; done) | (simp; omega) | omega))
      have hfb1 := fun (o : Nat) => hb3.frozen (p := ⟨w.heap.size + 1, o, none⟩) (by (first | (simp; done) | (simp; omega) | omega))
      have hcb2 := fun (o : Nat) => hb3.cell (p := ⟨w.heap.size + 1 + 1, o, none⟩) (by (first | (simp; done) | (simp; omega) | omega))
      have hfb2 := fun (o : Nat) => hb3.frozen (p := ⟨w.heap.size + 1 + 1, o, none⟩) (by (first | (simp; done) | (simp; omega) | omega))
      have hlb0 : w.heap.size < w3.heap.size := by omega
      have hlb1 : w.heap.size + 1 < w3.heap.size := by omega
      have hlb2 : w.heap.size + 1 + 1 < w3.heap.size := by omega
      go_wp2_with fail
      refine restK_begin [9] (by kernel_rfl) ?_
      refine restK_take (v := ?_) 0 rfl (by kernel_rfl) (by kernel_rfl) (by kernel_rfl) (by kernel_rfl) (by kernel_rfl) (by kernel_rfl) (fun _ _ _ h => h) (by rfl) ?_ ?_
      rotate_left
      · intro w9 h9; try dsimp only at h9
        obtain ⟨x9, rfl⟩ := later_of h9
        go_simp; try with_reducible rfl
      try simp only [Act.put, List.setIfInBounds_toArray, List.set_cons_zero, List.set_cons_succ]
      refine restK_pure (v := ?_) 1 rfl (by kernel_rfl) (by kernel_rfl) (by kernel_rfl) (by kernel_rfl) (fun _ _ _ h => h) (by rfl) ?_ ?_
      rotate_left
      · intro w9; go_simp; try with_reducible rfl
      try simp only [Act.put, List.setIfInBounds_toArray, List.set_cons_zero, List.set_cons_succ]
      refine restK_take (v := ?_) 2 rfl (by kernel_rfl) (by kernel_rfl) (by kernel_rfl) (by kernel_rfl) (by kernel_rfl) (by kernel_rfl) (fun _ _ _ h => h) (by rfl) ?_ ?_
      rotate_left
      · intro w9 h9; try dsimp only at h9
        obtain ⟨x9, rfl⟩ := later_of h9
        go_simp; try with_reducible rfl
      try simp only [Act.put, List.setIfInBounds_toArray, List.set_cons_zero, List.set_cons_succ]
      refine restK_pure (v := ?_) 3 rfl (by kernel_rfl) (by kernel_rfl) (by kernel_rfl) (by kernel_rfl) (fun _ _ _ h => h) (by rfl) ?_ ?_
      rotate_left
      · intro w9; go_simp; try with_reducible rfl
      try simp only [Act.put, List.setIfInBounds_toArray, List.set_cons_zero, List.set_cons_succ]
      refine restK_take (v := ?_) 4 rfl (by kernel_rfl) (by kernel_rfl) (by kernel_rfl) (by kernel_rfl) (by kernel_rfl) (by kernel_rfl) (fun _ _ _ h => h) (by rfl) ?_ ?_
      rotate_left
      · intro w9 h9; try dsimp only at h9
        obtain ⟨x9, rfl⟩ := later_of h9
        go_simp; try with_reducible rfl
      try simp only [Act.put, List.setIfInBounds_toArray, List.set_cons_zero, List.set_cons_succ]
      refine restK_alone 5 rfl (by kernel_rfl) (by rfl) (fun hS K hK => ?_)
      go_wp2_with fail
      refine (c_spec_HeadRow_y num base time am cm l _ (HM.out _ (by (repeat (first | with_reducible exact Below.refl _ _ | ((with_reducible refine bl_alloc ?_ ?_); (focus (first | (simp; done) | (simp; omega) | omega))) | ((with_reducible refine bl_set ?_ ?_); (focus (first | (simp; done) | (simp; omega) | omega))) | ((with_reducible refine bl_later ?_ ?_); (focus (first | (simp; done) | (simp; omega) | omega))) | with_reducible refine bl_drew ?_ | with_reducible refine bl_drewN ?_ | ((with_reducible refine bl_step (by assumption) ?_ ?_); (focus (first | (simp; done) | (simp; omega) | omega))))))) HE0.out).mono ?_
      rintro e5 w5 ⟨a5, c5, rfl, ho5, hb5⟩
      have hS5 := bl_step hb5 hS.size hS
      have hz5 := hb5.size
      simp only [World.size_drew] at hz5 ho5
      have Ho5 := Lib.hid ho5
      clear ho5
      refine hK.out _ _ (hS5) ?_
      try simp only [Act.put, List.setIfInBounds_toArray, List.set_cons_zero, List.set_cons_succ]
      clear hK K hS
      clear hb5
      refine restK_alone 6 rfl (by kernel_rfl) (by rfl) (fun hS K hK => ?_)
      go_wp2_with fail
      refine (c_spec_BothWrote ak aw bk bw ck cw dk dw d e (num % 2) a5 c5 (headRow num base time l) _ (HD.out _ (by (repeat (first | with_reducible exact Below.refl _ _ | ((with_reducible refine bl_alloc ?_ ?_); (focus (first | (simp; done) | (simp; omega) | omega))) | ((with_reducible refine bl_set ?_ ?_); (focus (first | (simp; done) | (simp; omega) | omega))) | ((with_reducible refine bl_later ?_ ?_); (focus (first | (simp; done) | (simp; omega) | omega))) | with_reducible refine bl_drew ?_ | with_reducible refine bl_drewN ?_ | ((with_reducible refine bl_step (by assumption) ?_ ?_); (focus (first | (simp; done) | (simp; omega) | omega))))))) (HE.out _ (by (repeat (first | with_reducible exact Below.refl _ _ | ((with_reducible refine bl_alloc ?_ ?_); (focus (first | (simp; done) | (simp; omega) | omega))) | ((with_reducible refine bl_set ?_ ?_); (focus (first | (simp; done) | (simp; omega) | omega))) | ((with_reducible refine bl_later ?_ ?_); (focus (first | (simp; done) | (simp; omega) | omega))) | with_reducible refine bl_drew ?_ | with_reducible refine bl_drewN ?_ | ((with_reducible refine bl_step (by assumption) ?_ ?_); (focus (first | (simp; done) | (simp; omega) | omega))))))) Ho5.out.read HT.out).mono ?_
      rintro e6 w6 ⟨b1, k1, b2, k2, b3, k3, b4, k4, rfl, hs6, hb6⟩
      have hS6 := bl_step hb6 hS.size hS
      have hz6 := hb6.size
      have Hs6 := Lib.hid hs6
      clear hs6
      refine hK.out _ _ (hS6) ?_
      try simp only [Act.put, List.setIfInBounds_toArray, List.set_cons_zero, List.set_cons_succ]
      clear hK K hS
      clear hb6
      refine restK_pure (v := ?_) 7 rfl (by kernel_rfl) (by kernel_rfl) (by kernel_rfl) (by kernel_rfl) (fun _ _ _ h => h) (by rfl) ?_ ?_
      rotate_left
      · intro w9; go_simp; try with_reducible rfl
      try simp only [Act.put, List.setIfInBounds_toArray, List.set_cons_zero, List.set_cons_succ]
      refine restK_pure (v := ?_) 8 rfl (by kernel_rfl) (by kernel_rfl) (by kernel_rfl) (by kernel_rfl) (fun _ _ _ h => h) (by rfl) ?_ ?_
      rotate_left
      · intro w9; go_simp; try with_reducible rfl
      try simp only [Act.put, List.setIfInBounds_toArray, List.set_cons_zero, List.set_cons_succ]
      refine restK_break 9 rfl (by kernel_rfl) (by rfl) (by kernel_rfl) (fun hS K hK => ?_)
      have hcr0 := fun (o : Nat) => hS.cell (p := ⟨w.heap.size + 1 + 1, o, none⟩) (by (first | (simp; done) | (simp; omega) | omega))
      have hfr0 := fun (o : Nat) => hS.frozen (p := ⟨w.heap.size + 1 + 1, o, none⟩) (by (first | (simp; done) | (simp; omega) | omega))
      have HBw : Hid (Below w.heap.size w w6) := by unfold Hid; (repeat (first | with_reducible exact Below.refl _ _ | ((with_reducible refine bl_alloc ?_ ?_); (focus (first | (simp; done) | (simp; omega) | omega))) | ((with_reducible refine bl_set ?_ ?_); (focus (first | (simp; done) | (simp; omega) | omega))) | ((with_reducible refine bl_later ?_ ?_); (focus (first | (simp; done) | (simp; omega) | omega))) | with_reducible refine bl_drew ?_ | with_reducible refine bl_drewN ?_ | ((with_reducible refine bl_step (by assumption) ?_ ?_); (focus (first | (simp; done) | (simp; omega) | omega)))))
      go_wp2_with fail
      refine hK.out _ _ trivial ?_
      try simp only [Act.put, List.setIfInBounds_toArray, List.set_cons_zero, List.set_cons_succ]
      clear hK K hS
      refine rest_take (v := ?_) 10 rfl (by kernel_rfl) (by kernel_rfl) (by kernel_rfl) (fun _ _ _ h => h) (by rfl) ?_ ?_
      rotate_left
      · intro w9; go_simp; try with_reducible rfl
      try simp only [Act.put, List.setIfInBounds_toArray, List.set_cons_zero, List.set_cons_succ]
      refine rest_done (by kernel_rfl) ?_
      go_wp2_with fail
      have hBw := HBw.out
      refine bodyPost_ret (v := .tuple #[.agg #[.slice b1 (bothWroteF d e (num % 2) (headRow num base time l)).1.1.1.length k1, .slice b2 (bothWroteF d e (num % 2) (headRow num base time l)).1.1.2.length k2, .slice b3 (bothWroteF d e (num % 2) (headRow num base time l)).1.2.1.length k3, .slice b4 (bothWroteF d e (num % 2) (headRow num base time l)).1.2.2.length k4], .bool (bothWroteF d e (num % 2) (headRow num base time l)).2]) (by simp [results, Try.results26, go_sem, *]) rfl ⟨b1, k1, b2, k2, b3, k3, b4, k4, ?_, ?_, ?_⟩
      · rw [HEn.out]
      · rw [HEn.out]
        exact (Hs6.out.kp (by clear hBw; (repeat (first | with_reducible exact kp_refl | ((with_reducible refine kp_alloc ?_ ?_); (focus (first | (simp; done) | (simp; omega) | omega))) | ((with_reducible refine kp_set ?_ ?_); (focus (first | (simp; done) | (simp; omega) | omega))) | with_reducible refine kp_drew ?_ | with_reducible refine kp_drewN ?_ | ((with_reducible refine kp_step (by assumption) ?_ ?_); (focus (first | (simp; done) | (simp; omega) | omega))))))).wide (by have := hBw.size; omega) (by (first | (simp; done) | (simp; omega) | omega))
      · (repeat (first | with_reducible exact Below.refl _ _ | ((with_reducible refine bl_alloc ?_ ?_); (focus (first | (simp; done) | (simp; omega) | omega))) | ((with_reducible refine bl_set ?_ ?_); (focus (first | (simp; done) | (simp; omega) | omega))) | ((with_reducible refine bl_later ?_ ?_); (focus (first | (simp; done) | (simp; omega) | omega))) | with_reducible refine bl_drew ?_ | with_reducible refine bl_drewN ?_ | ((with_reducible refine bl_step (by assumption) ?_ ?_); (focus (first | (simp; done) | (simp; omega) | omega)))))

end Go.Proofs.Ytmjafclpeknpcaa
/- The laws find their marks again: in lists of rows, lists of writes, disks. -/
namespace Go.Proofs.Ytmjafclpeknpcaa
open Go.ChangeShapes Go.WideShapes Go.ChangeAt Go.RowKit Go.Deep
set_option maxHeartbeats 1600000
set_option maxRecDepth 100000
theorem c_heldRows (ao : Option Addr) (cap : Nat) (K : List (List Int)) (k : Int) (w : World) (h : RowsR w ao (mkRows k K)) (hk : 0 ≤ k) (hk2 : k + lenSum K ≤ 1099511627776) (hl : K.length ≤ 1048576) :
    Calls Try.prog 96 #[.slice ao K.length cap, .int .i64 k] w fun e w' => e = .returned (.int .i64 (k + lenSum K)) ∧ w = w' := by
  go_enter Try.func96, Try.ntmps96
  go_wp2
  go_loop [1, 5] (fun kk i => ∃ q : Nat, q ≤ K.length ∧ i = .int .i64 q ∧ kk = .int .i64 (k + lenSum (K.take q))) (fun _ i => K.length - (intOf i).toNat)
  case atStart => exact ⟨0, Nat.zero_le _, rfl, by simp [lenSum]⟩
  case round =>
    obtain ⟨q, hq, rfl, rfl⟩ := hrel
    by_cases hqt : q < K.length
    · have hp : (q : Int) < (K.length : Int) := by omega
      have hql : q < (mkRows k K).length := by rw [length_mkRows]; exact hqt
      have hat := mkRows_at (k := k) hqt
      rw [List.getElem?_eq_getElem hql] at hat
      have hat := Option.some.inj hat
      obtain ⟨b, off, rfl, hbl, hc⟩ := h.at hql
      obtain ⟨ai, ci, hcell, hr, hci⟩ := hc q hql
      rw [hat] at hcell hr
      rw [length_seqI] at hcell
      have ht := lenSum_take hqt
      have hle := lenSum_le K (q + 1)
      have Ht := Lib.hid ht
      obtain ⟨m, hm⟩ : ∃ m : Int, k + (lenSum (K.take q) : Int) = m := ⟨_, rfl⟩
      have Hm := Lib.hid hm
      rw [hm] at hr ⊢
      have hm0 : 0 ≤ m := by omega
      have hm1 : m ≤ 1099511627776 := by omega
      have hrl : K[q].length ≤ 1099511627776 := by omega
      have hng : ¬ m + (K[q].length : Int) < 0 := by omega
      clear hm ht hle hat hc
      go_wp2_with fail
      refine (c_laws_heldInt64S ai ci K[q].length m _ hr hm0 hm1 hrl).mono ?_
      rintro e w' ⟨rfl, rfl⟩
      go_wp2_with fail
      go_round
      case rel => exact ⟨q + 1, by omega, by go_num, by have := Ht.out; have := Hm.out; congr 1; omega⟩
      case measure => simp [intOf]; omega
    · obtain rfl : q = K.length := by omega
      rw [List.take_length]
      go_wp2_with fail
      go_ret
      exact ⟨rfl, rfl⟩
theorem c_heldWrites (ao : Option Addr) (cap : Nat) (K : List (Int × List Int)) (k : Int) (w : World) (h : WritesR w ao (mkWrites k K)) (hk : 0 ≤ k) (hk2 : k + szW K ≤ 1099511627776) (hl : K.length ≤ 1048576) :
    Calls Try.prog 97 #[.slice ao K.length cap, .int .i64 k] w fun e w' => e = .returned (.int .i64 (k + szW K)) ∧ w = w' := by
  go_enter Try.func97, Try.ntmps97
  go_wp2
  go_loop [1, 5] (fun kk i => ∃ q : Nat, q ≤ K.length ∧ i = .int .i64 q ∧ kk = .int .i64 (k + szW (K.take q))) (fun _ i => K.length - (intOf i).toNat)
  case atStart => exact ⟨0, Nat.zero_le _, rfl, by simp [szW, wrows, lenSum]⟩
  case round =>
    obtain ⟨q, hq, rfl, rfl⟩ := hrel
    by_cases hqt : q < K.length
    · have hp : (q : Int) < (K.length : Int) := by omega
      have hql : q < (mkWrites k K).length := by rw [length_mkWrites]; exact hqt
      have hat := mkWrites_at (k := k) hqt
      rw [List.getElem?_eq_getElem hql] at hat
      have hat := Option.some.inj hat
      obtain ⟨b, off, rfl, hbl, hc⟩ := h.at hql
      obtain ⟨_, hc0, ai, ci, hcell, hr, hci⟩ := hc q hql
      rw [hat] at hcell hr hc0
      simp only at hcell hr hc0
      rw [length_seqI] at hcell
      have ht := szW_take hqt
      have hle := szW_le K (q + 1)
      have Ht := Lib.hid ht
      obtain ⟨m, hm⟩ : ∃ m : Int, k + (szW (K.take q) : Int) = m := ⟨_, rfl⟩
      have Hm := Lib.hid hm
      rw [hm] at hr hc0 ⊢
      have hm0 : 0 ≤ m := by omega
      have hm1 : m + 1 ≤ 1099511627776 := by omega
      have hrl : K[q].2.length ≤ 1099511627776 := by omega
      have hng : ¬ m + 1 + (K[q].2.length : Int) < 0 := by omega
      clear hm ht hle hat hc
      go_wp2_with fail
      refine (c_laws_heldInt64S ai ci K[q].2.length (m + 1) _ hr (by omega) hm1 hrl).mono ?_
      rintro e w' ⟨rfl, rfl⟩
      go_wp2_with fail
      go_round
      case rel => exact ⟨q + 1, by omega, by go_num, by have := Ht.out; have := Hm.out; congr 1; omega⟩
      case measure => simp [intOf]; omega
    · obtain rfl : q = K.length := by omega
      rw [List.take_length]
      go_wp2_with fail
      go_ret
      exact ⟨rfl, rfl⟩
theorem c_heldDisk (ak aw : Option Addr) (ck cw : Nat) (d : List (List Int) × List (Int × List Int)) (k : Int) (w : World) (h : DiskR w ak aw (mkDisk k d)) (hk : 0 ≤ k) (hk2 : k + mkSum d ≤ 1099511627776) (hI : DiskIn d) :
    Calls Try.prog 43 #[.agg #[.slice ak d.1.length ck, .slice aw d.2.length cw], .int .i64 k] w fun e w' => e = .returned (.int .i64 (k + mkSum d)) ∧ Below w.heap.size w w' := by
  have hb0 : Below w.heap.size w (w.alloc (.cells #[.slice ak d.1.length ck, .slice aw d.2.length cw] 35)) := (Below.refl _ _).alloc (Nat.le_refl _) _
  have HD := Lib.hid (h.below hb0)
  have hks : (mkSum d : Int) = lenSum d.1 + szW d.2 := by simp [mkSum]
  clear h
  have hn1 : ¬ k + (lenSum d.1 : Int) < 0 := by omega
  have hn2 : ¬ k + (lenSum d.1 : Int) + (szW d.2 : Int) < 0 := by omega
  go_enter Try.func43, Try.ntmps43
  go_wp2_with fail
  refine (c_heldRows ak ck d.1 k _ HD.out.1 hk (by omega) hI.1).mono ?_
  rintro e w2 ⟨rfl, rfl⟩
  go_wp2_with fail
  refine (c_heldWrites aw cw d.2 (k + lenSum d.1) _ HD.out.2 (by omega) (by omega) hI.2.2.1).mono ?_
  rintro e w3 ⟨rfl, rfl⟩
  go_wp2_with fail
  go_ret
  exact ⟨by show Ending.returned (Value.int .i64 (k + lenSum d.1 + szW d.2)) = _; rw [hks, Int.add_assoc], hb0⟩
theorem c_heldTwo (ak aw bk bw : Option Addr) (ck cw dk dw : Nat) (d e : List (List Int) × List (Int × List Int)) (k : Int) (w : World) (h : DiskR w ak aw (mkDisk k d)) (h2 : DiskR w bk bw (mkDisk (k + mkSum d) e)) (hk : 0 ≤ k) (hk2 : k + (mkSum d + mkSum e : Nat) ≤ 1099511627776) (hI : DiskIn d) (hJ : DiskIn e) :
    Calls Try.prog 14 #[.agg #[.slice ak d.1.length ck, .slice aw d.2.length cw, .slice bk e.1.length dk, .slice bw e.2.length dw], .int .i64 k] w fun en w' => en = .returned (.int .i64 (k + (mkSum d + mkSum e : Nat))) ∧ Below w.heap.size w w' := by
  have hb0 : Below w.heap.size w (w.alloc (.cells #[.slice ak d.1.length ck, .slice aw d.2.length cw, .slice bk e.1.length dk, .slice bw e.2.length dw] 37)) := (Below.refl _ _).alloc (Nat.le_refl _) _
  have HD := Lib.hid (h.below hb0)
  have HE := Lib.hid (h2.below hb0)
  have hks : ((mkSum d + mkSum e : Nat) : Int) = mkSum d + mkSum e := by simp
  clear h h2
  have hn1 : ¬ k + (mkSum d : Int) < 0 := by omega
  have hn2 : ¬ k + (mkSum d : Int) + (mkSum e : Int) < 0 := by omega
  go_enter Try.func14, Try.ntmps14
  go_wp2_with fail
  refine (c_heldDisk ak aw ck cw d k _ HD.out hk (by omega) hI).mono ?_
  rintro en w2 ⟨rfl, hb2⟩
  obtain ⟨hc, hf, hsz⟩ := bcell hb2
  have hz := hb2.size
  simp only [World.size_alloc] at hz
  go_wp2_with fail
  refine (c_heldDisk bk bw dk dw e (k + mkSum d) _ (HE.out.below hb2) (by omega) (by omega) hJ).mono ?_
  rintro en w3 ⟨rfl, hb3⟩
  go_wp2_with fail
  go_ret
  exact ⟨by show Ending.returned (Value.int .i64 (k + mkSum d + mkSum e)) = _; rw [hks, Int.add_assoc], by (repeat (first | with_reducible exact Below.refl _ _ | ((with_reducible refine bl_alloc ?_ ?_); (focus (first | (simp; done) | (simp; omega) | omega))) | ((with_reducible refine bl_set ?_ ?_); (focus (first | (simp; done) | (simp; omega) | omega))) | ((with_reducible refine bl_later ?_ ?_); (focus (first | (simp; done) | (simp; omega) | omega))) | with_reducible refine bl_drew ?_ | with_reducible refine bl_drewN ?_ | ((with_reducible refine bl_step (by assumption) ?_ ?_); (focus (first | (simp; done) | (simp; omega) | omega)))))⟩
end Go.Proofs.Ytmjafclpeknpcaa
/- Walks of functions of the program, printed by a program of the prover. -/
namespace Go.Proofs.Ytmjafclpeknpcaa
open Go.ChangeShapes Go.WideShapes Go.ChangeAt Go.RowKit Go.Deep
set_option maxHeartbeats 1600000
set_option maxRecDepth 100000

theorem c_eqRows_same (ao ao2 : Option Addr) (cap cap2 : Nat) (K : List (List Int)) (w : World) (h : RowsR w ao K) (h2 : RowsR w ao2 K) :
    Calls Try.prog 92 #[.slice ao K.length cap, .slice ao2 K.length cap2] w fun e w' => e = .returned (.bool true) ∧ Below w.heap.size w w' := by
  have hm := h.1
  go_enter Try.func92, Try.ntmps92
  go_wp2_with fail
  go_loopw [5] (fun i wr => ∃ k : Nat, k ≤ K.length ∧ i = .int .i64 k ∧ Below w.heap.size w wr) (fun i _ => K.length - (intOf i).toNat)
  case atStart => exact ⟨0, Nat.zero_le _, rfl, Below.refl _ _⟩
  case round =>
    obtain ⟨k, hk, rfl, hbel⟩ := hrel
    by_cases hlt : k < K.length
    · have hp : (k : Int) < (K.length : Int) := by omega
      obtain ⟨b, off, rfl, hbl, hc⟩ := (h.below hbel).at hlt
      obtain ⟨b2, off2, rfl, hbl2, hd⟩ := (h2.below hbel).at hlt
      obtain ⟨ai, ci, hcell, hr, _⟩ := hc k hlt
      obtain ⟨a2, c2, hcell2, hr2, _⟩ := hd k hlt
      clear hc hd
      generalize K[k] = r at hcell hr hcell2 hr2
      go_wp2_with fail
      refine restS_begin (fun W => Below wr.heap.size wr W) (by kernel_rfl) (Below.refl _ _).drew ?_
      refine restS_take (v := ?_) 0 rfl (by kernel_rfl) (by kernel_rfl) (by kernel_rfl) (fun _ _ _ h => h) (by rfl) ?_ ?_
      rotate_left
      · intro w9 h9; try dsimp only at h9
        go_split_ands
        go_simp; try with_reducible rfl
      try simp only [Act.put, List.setIfInBounds_toArray, List.set_cons_zero, List.set_cons_succ]
      refine restS_take (v := ?_) 1 rfl (by kernel_rfl) (by kernel_rfl) (by kernel_rfl) (fun _ _ _ h => h) (by rfl) ?_ ?_
      rotate_left
      · intro w9 h9; try dsimp only at h9
        go_split_ands
        go_simp; try with_reducible rfl
      try simp only [Act.put, List.setIfInBounds_toArray, List.set_cons_zero, List.set_cons_succ]
      refine restS_take (v := ?_) 2 rfl (by kernel_rfl) (by kernel_rfl) (by kernel_rfl) (fun _ _ _ h => h) (by rfl) ?_ ?_
      rotate_left
      · intro w9 h9; try dsimp only at h9
        go_split_ands
        go_simp; try with_reducible rfl
      try simp only [Act.put, List.setIfInBounds_toArray, List.set_cons_zero, List.set_cons_succ]
      refine restS_take (v := ?_) 3 rfl (by kernel_rfl) (by kernel_rfl) (by kernel_rfl) (fun _ _ _ h => h) (by rfl) ?_ ?_
      rotate_left
      · intro w9 h9; try dsimp only at h9
        obtain ⟨x9, rfl⟩ := later_of h9
        go_simp; try with_reducible rfl
      try simp only [Act.put, List.setIfInBounds_toArray, List.set_cons_zero, List.set_cons_succ]
      refine restS_take (v := ?_) 4 rfl (by kernel_rfl) (by kernel_rfl) (by kernel_rfl) (fun _ _ _ h => h) (by rfl) ?_ ?_
      rotate_left
      · intro w9 h9; try dsimp only at h9
        go_split_ands
        go_simp; try with_reducible rfl
      try simp only [Act.put, List.setIfInBounds_toArray, List.set_cons_zero, List.set_cons_succ]
      refine restS_take (v := ?_) 5 rfl (by kernel_rfl) (by kernel_rfl) (by kernel_rfl) (fun _ _ _ h => h) (by rfl) ?_ ?_
      rotate_left
      · intro w9 h9; try dsimp only at h9
        go_split_ands
        go_simp; try with_reducible rfl
      try simp only [Act.put, List.setIfInBounds_toArray, List.set_cons_zero, List.set_cons_succ]
      refine restS_take (v := ?_) 6 rfl (by kernel_rfl) (by kernel_rfl) (by kernel_rfl) (fun _ _ _ h => h) (by rfl) ?_ ?_
      rotate_left
      · intro w9 h9; try dsimp only at h9
        go_split_ands
        go_simp; try with_reducible rfl
      try simp only [Act.put, List.setIfInBounds_toArray, List.set_cons_zero, List.set_cons_succ]
      refine restS_take (v := ?_) 7 rfl (by kernel_rfl) (by kernel_rfl) (by kernel_rfl) (fun _ _ _ h => h) (by rfl) ?_ ?_
      rotate_left
      · intro w9 h9; try dsimp only at h9
        obtain ⟨x9, rfl⟩ := later_of h9
        go_simp; try with_reducible rfl
      try simp only [Act.put, List.setIfInBounds_toArray, List.set_cons_zero, List.set_cons_succ]
      refine restS_alone 8 rfl (by kernel_rfl) (by rfl) (fun hS K hK => ?_)
      go_wp2_with fail
      refine (c_eqInt64S ai a2 ci c2 r r _ (hr.below hS) (hr2.below hS)).mono ?_
      rw [beq_self_eq_true]
      rintro e w5 ⟨rfl, hb5⟩
      refine hK.out _ _ (bl_step hb5 hS.size hS) ?_
      try simp only [Act.put, List.setIfInBounds_toArray, List.set_cons_zero, List.set_cons_succ]
      clear hK K hS hb5
      refine restS_take (v := ?_) 9 rfl (by kernel_rfl) (by kernel_rfl) (by kernel_rfl) (fun _ _ _ h => h) (by rfl) ?_ ?_
      rotate_left
      · intro w9 h9; try dsimp only at h9
        go_split_ands
        go_simp; try with_reducible rfl
      try simp only [Act.put, List.setIfInBounds_toArray, List.set_cons_zero, List.set_cons_succ]
      refine restS_done (by kernel_rfl) (fun hS => ?_)
      go_wp2_with fail
      go_roundw
      case rel => exact ⟨k + 1, by omega, by go_num, bl_step hS hbel.size hbel⟩
      case measure => simp [intOf]; omega
    · obtain rfl : k = K.length := by omega
      go_wp2_with fail
      go_ret
      exact ⟨rfl, hbel⟩

theorem c_eqWrite_same (a : Int) (ao ao2 : Option Addr) (cap cap2 : Nat) (l : List Int) (w : World) (h : IntsR w ao l) (h2 : IntsR w ao2 l) :
    Calls Try.prog 150 #[.agg #[.int .i64 a, .slice ao l.length cap], .agg #[.int .i64 a, .slice ao2 l.length cap2]] w fun e w' => e = .returned (.bool true) ∧ Below w.heap.size w w' := by
  have Hl : Hid (∀ W, Below w.heap.size w W → IntsR W ao l) := fun W hb => h.below hb
  have Hm : Hid (∀ W, Below w.heap.size w W → IntsR W ao2 l) := fun W hb => h2.below hb
  clear h h2
  go_enter Try.func150, Try.ntmps150
  go_wp2_with fail
  refine (c_eqInt64S ao ao2 cap cap2 l l _ (Hl.out _ (by (repeat (first | with_reducible exact Below.refl _ _ | ((with_reducible refine bl_alloc ?_ ?_); (focus (first | (simp; done) | (simp; omega) | omega))) | ((with_reducible refine bl_set ?_ ?_); (focus (first | (simp; done) | (simp; omega) | omega))) | ((with_reducible refine bl_later ?_ ?_); (focus (first | (simp; done) | (simp; omega) | omega))) | with_reducible refine bl_drew ?_ | with_reducible refine bl_drewN ?_ | ((with_reducible refine bl_step (by assumption) ?_ ?_); (focus (first | (simp; done) | (simp; omega) | omega))))))) (Hm.out _ (by (repeat (first | with_reducible exact Below.refl _ _ | ((with_reducible refine bl_alloc ?_ ?_); (focus (first | (simp; done) | (simp; omega) | omega))) | ((with_reducible refine bl_set ?_ ?_); (focus (first | (simp; done) | (simp; omega) | omega))) | ((with_reducible refine bl_later ?_ ?_); (focus (first | (simp; done) | (simp; omega) | omega))) | with_reducible refine bl_drew ?_ | with_reducible refine bl_drewN ?_ | ((with_reducible refine bl_step (by assumption) ?_ ?_); (focus (first | (simp; done) | (simp; omega) | omega)))))))).mono ?_
  rw [beq_self_eq_true]
  rintro e w2 ⟨rfl, hb2⟩
  go_wp2_with fail
  go_ret
  exact ⟨rfl, by (repeat (first | with_reducible exact Below.refl _ _ | ((with_reducible refine bl_alloc ?_ ?_); (focus (first | (simp; done) | (simp; omega) | omega))) | ((with_reducible refine bl_set ?_ ?_); (focus (first | (simp; done) | (simp; omega) | omega))) | ((with_reducible refine bl_later ?_ ?_); (focus (first | (simp; done) | (simp; omega) | omega))) | with_reducible refine bl_drew ?_ | with_reducible refine bl_drewN ?_ | ((with_reducible refine bl_step (by assumption) ?_ ?_); (focus (first | (simp; done) | (simp; omega) | omega)))))⟩

theorem c_eqWrites_same (ao ao2 : Option Addr) (cap cap2 : Nat) (K : List (Int × List Int)) (w : World) (h : WritesR w ao K) (h2 : WritesR w ao2 K) :
    Calls Try.prog 93 #[.slice ao K.length cap, .slice ao2 K.length cap2] w fun e w' => e = .returned (.bool true) ∧ Below w.heap.size w w' := by
  have hm := h.1
  go_enter Try.func93, Try.ntmps93
  go_wp2_with fail
  go_loopw [5] (fun i wr => ∃ k : Nat, k ≤ K.length ∧ i = .int .i64 k ∧ Below w.heap.size w wr) (fun i _ => K.length - (intOf i).toNat)
  case atStart => exact ⟨0, Nat.zero_le _, rfl, Below.refl _ _⟩
  case round =>
    obtain ⟨k, hk, rfl, hbel⟩ := hrel
    by_cases hlt : k < K.length
    · have hp : (k : Int) < (K.length : Int) := by omega
      obtain ⟨b, off, rfl, hbl, hc⟩ := (h.below hbel).at hlt
      obtain ⟨b2, off2, rfl, hbl2, hd⟩ := (h2.below hbel).at hlt
      obtain ⟨_, hc0, ai, ci, hcell, hr, _⟩ := hc k hlt
      obtain ⟨_, hd0, a2, c2, hcell2, hr2, _⟩ := hd k hlt
      clear hc hd
      generalize K[k] = e at hc0 hd0 hcell hr hcell2 hr2
      obtain ⟨a, r⟩ := e
      simp only at hc0 hd0 hcell hr hcell2 hr2
      go_wp2_with fail
      refine restS_begin (fun W => Below wr.heap.size wr W) (by kernel_rfl) (Below.refl _ _).drew ?_
      refine restS_take (v := ?_) 0 rfl (by kernel_rfl) (by kernel_rfl) (by kernel_rfl) (fun _ _ _ h => h) (by rfl) ?_ ?_
      rotate_left
      · intro w9 h9; try dsimp only at h9
        go_split_ands
        go_simp; try with_reducible rfl
      try simp only [Act.put, List.setIfInBounds_toArray, List.set_cons_zero, List.set_cons_succ]
      refine restS_take (v := ?_) 1 rfl (by kernel_rfl) (by kernel_rfl) (by kernel_rfl) (fun _ _ _ h => h) (by rfl) ?_ ?_
      rotate_left
      · intro w9 h9; try dsimp only at h9
        go_split_ands
        go_simp; try with_reducible rfl
      try simp only [Act.put, List.setIfInBounds_toArray, List.set_cons_zero, List.set_cons_succ]
      refine restS_take (v := ?_) 2 rfl (by kernel_rfl) (by kernel_rfl) (by kernel_rfl) (fun _ _ _ h => h) (by rfl) ?_ ?_
      rotate_left
      · intro w9 h9; try dsimp only at h9
        go_split_ands
        go_simp; try with_reducible rfl
      try simp only [Act.put, List.setIfInBounds_toArray, List.set_cons_zero, List.set_cons_succ]
      refine restS_take (v := ?_) 3 rfl (by kernel_rfl) (by kernel_rfl) (by kernel_rfl) (fun _ _ _ h => h) (by rfl) ?_ ?_
      rotate_left
      · intro w9 h9; try dsimp only at h9
        obtain ⟨x9, rfl⟩ := later_of h9
        go_simp; try with_reducible rfl
      try simp only [Act.put, List.setIfInBounds_toArray, List.set_cons_zero, List.set_cons_succ]
      refine restS_take (v := ?_) 4 rfl (by kernel_rfl) (by kernel_rfl) (by kernel_rfl) (fun _ _ _ h => h) (by rfl) ?_ ?_
      rotate_left
      · intro w9 h9; try dsimp only at h9
        go_split_ands
        go_simp; try with_reducible rfl
      try simp only [Act.put, List.setIfInBounds_toArray, List.set_cons_zero, List.set_cons_succ]
      refine restS_take (v := ?_) 5 rfl (by kernel_rfl) (by kernel_rfl) (by kernel_rfl) (fun _ _ _ h => h) (by rfl) ?_ ?_
      rotate_left
      · intro w9 h9; try dsimp only at h9
        go_split_ands
        go_simp; try with_reducible rfl
      try simp only [Act.put, List.setIfInBounds_toArray, List.set_cons_zero, List.set_cons_succ]
      refine restS_take (v := ?_) 6 rfl (by kernel_rfl) (by kernel_rfl) (by kernel_rfl) (fun _ _ _ h => h) (by rfl) ?_ ?_
      rotate_left
      · intro w9 h9; try dsimp only at h9
        go_split_ands
        go_simp; try with_reducible rfl
      try simp only [Act.put, List.setIfInBounds_toArray, List.set_cons_zero, List.set_cons_succ]
      refine restS_take (v := ?_) 7 rfl (by kernel_rfl) (by kernel_rfl) (by kernel_rfl) (fun _ _ _ h => h) (by rfl) ?_ ?_
      rotate_left
      · intro w9 h9; try dsimp only at h9
        obtain ⟨x9, rfl⟩ := later_of h9
        go_simp; try with_reducible rfl
      try simp only [Act.put, List.setIfInBounds_toArray, List.set_cons_zero, List.set_cons_succ]
      refine restS_alone 8 rfl (by kernel_rfl) (by rfl) (fun hS K hK => ?_)
      go_wp2_with fail
      refine (c_eqWrite_same a ai a2 ci c2 r _ (hr.below hS) (hr2.below hS)).mono ?_
      rintro e w5 ⟨rfl, hb5⟩
      refine hK.out _ _ (bl_step hb5 hS.size hS) ?_
      try simp only [Act.put, List.setIfInBounds_toArray, List.set_cons_zero, List.set_cons_succ]
      clear hK K hS hb5
      refine restS_take (v := ?_) 9 rfl (by kernel_rfl) (by kernel_rfl) (by kernel_rfl) (fun _ _ _ h => h) (by rfl) ?_ ?_
      rotate_left
      · intro w9 h9; try dsimp only at h9
        go_split_ands
        go_simp; try with_reducible rfl
      try simp only [Act.put, List.setIfInBounds_toArray, List.set_cons_zero, List.set_cons_succ]
      refine restS_done (by kernel_rfl) (fun hS => ?_)
      go_wp2_with fail
      go_roundw
      case rel => exact ⟨k + 1, by omega, by go_num, bl_step hS hbel.size hbel⟩
      case measure => simp [intOf]; omega
    · obtain rfl : k = K.length := by omega
      go_wp2_with fail
      go_ret
      exact ⟨rfl, hbel⟩

theorem c_eqDisk_same (ak aw bk bw : Option Addr) (ck cw dk dw : Nat) (d : List (List Int) × List (Int × List Int)) (w : World) (h : DiskR w ak aw d) (h2 : DiskR w bk bw d) :
    Calls Try.prog 41 #[.agg #[.slice ak d.1.length ck, .slice aw d.2.length cw], .agg #[.slice bk d.1.length dk, .slice bw d.2.length dw]] w fun e w' => e = .returned (.bool true) ∧ Below w.heap.size w w' := by
  have Hl : Hid (∀ W, Below w.heap.size w W → DiskR W ak aw d) := fun W hb => h.below hb
  have Hm : Hid (∀ W, Below w.heap.size w W → DiskR W bk bw d) := fun W hb => h2.below hb
  clear h h2
  go_enter Try.func41, Try.ntmps41
  go_wp2_with fail
  refine (c_eqRows_same ak bk ck dk d.1 _ (Hl.out _ (by (repeat (first | with_reducible exact Below.refl _ _ | ((with_reducible refine bl_alloc ?_ ?_); (focus (first | (simp; done) | (simp; omega) | omega))) | ((with_reducible refine bl_set ?_ ?_); (focus (first | (simp; done) | (simp; omega) | omega))) | ((with_reducible refine bl_later ?_ ?_); (focus (first | (simp; done) | (simp; omega) | omega))) | with_reducible refine bl_drew ?_ | with_reducible refine bl_drewN ?_ | ((with_reducible refine bl_step (by assumption) ?_ ?_); (focus (first | (simp; done) | (simp; omega) | omega))))))).1 (Hm.out _ (by (repeat (first | with_reducible exact Below.refl _ _ | ((with_reducible refine bl_alloc ?_ ?_); (focus (first | (simp; done) | (simp; omega) | omega))) | ((with_reducible refine bl_set ?_ ?_); (focus (first | (simp; done) | (simp; omega) | omega))) | ((with_reducible refine bl_later ?_ ?_); (focus (first | (simp; done) | (simp; omega) | omega))) | with_reducible refine bl_drew ?_ | with_reducible refine bl_drewN ?_ | ((with_reducible refine bl_step (by assumption) ?_ ?_); (focus (first | (simp; done) | (simp; omega) | omega))))))).1).mono ?_
  rintro e w2 ⟨rfl, hb2⟩
  obtain ⟨hc, hf, hsz⟩ := bcell hb2
  have hz := hb2.size
  simp only [World.size_alloc] at hz
  go_wp2_with fail
  refine (c_eqWrites_same aw bw cw dw d.2 _ (Hl.out _ (by (repeat (first | with_reducible exact Below.refl _ _ | ((with_reducible refine bl_alloc ?_ ?_); (focus (first | (simp; done) | (simp; omega) | omega))) | ((with_reducible refine bl_set ?_ ?_); (focus (first | (simp; done) | (simp; omega) | omega))) | ((with_reducible refine bl_later ?_ ?_); (focus (first | (simp; done) | (simp; omega) | omega))) | with_reducible refine bl_drew ?_ | with_reducible refine bl_drewN ?_ | ((with_reducible refine bl_step (by assumption) ?_ ?_); (focus (first | (simp; done) | (simp; omega) | omega))))))).2 (Hm.out _ (by (repeat (first | with_reducible exact Below.refl _ _ | ((with_reducible refine bl_alloc ?_ ?_); (focus (first | (simp; done) | (simp; omega) | omega))) | ((with_reducible refine bl_set ?_ ?_); (focus (first | (simp; done) | (simp; omega) | omega))) | ((with_reducible refine bl_later ?_ ?_); (focus (first | (simp; done) | (simp; omega) | omega))) | with_reducible refine bl_drew ?_ | with_reducible refine bl_drewN ?_ | ((with_reducible refine bl_step (by assumption) ?_ ?_); (focus (first | (simp; done) | (simp; omega) | omega))))))).2).mono ?_
  rintro e w3 ⟨rfl, hb3⟩
  go_wp2_with fail
  go_ret
  exact ⟨rfl, by (repeat (first | with_reducible exact Below.refl _ _ | ((with_reducible refine bl_alloc ?_ ?_); (focus (first | (simp; done) | (simp; omega) | omega))) | ((with_reducible refine bl_set ?_ ?_); (focus (first | (simp; done) | (simp; omega) | omega))) | ((with_reducible refine bl_later ?_ ?_); (focus (first | (simp; done) | (simp; omega) | omega))) | with_reducible refine bl_drew ?_ | with_reducible refine bl_drewN ?_ | ((with_reducible refine bl_step (by assumption) ?_ ?_); (focus (first | (simp; done) | (simp; omega) | omega)))))⟩
theorem c_eqTwo_same (ak aw bk bw ak2 aw2 bk2 bw2 : Option Addr) (ck cw dk dw ck2 cw2 dk2 dw2 : Nat) (d e : List (List Int) × List (Int × List Int)) (w : World) (h : DiskR w ak aw d) (h2 : DiskR w bk bw e) (h3 : DiskR w ak2 aw2 d) (h4 : DiskR w bk2 bw2 e) :
    Calls Try.prog 12 #[.agg #[.slice ak d.1.length ck, .slice aw d.2.length cw, .slice bk e.1.length dk, .slice bw e.2.length dw], .agg #[.slice ak2 d.1.length ck2, .slice aw2 d.2.length cw2, .slice bk2 e.1.length dk2, .slice bw2 e.2.length dw2]] w fun en w' => en = .returned (.bool true) ∧ Below w.heap.size w w' := by
  have Hl : Hid (∀ W, Below w.heap.size w W → DiskR W ak aw d) := fun W hb => h.below hb
  have Hm : Hid (∀ W, Below w.heap.size w W → DiskR W bk bw e) := fun W hb => h2.below hb
  have Hl2 : Hid (∀ W, Below w.heap.size w W → DiskR W ak2 aw2 d) := fun W hb => h3.below hb
  have Hm2 : Hid (∀ W, Below w.heap.size w W → DiskR W bk2 bw2 e) := fun W hb => h4.below hb
  clear h h2 h3 h4
  go_enter Try.func12, Try.ntmps12
  go_wp2_with fail
  refine (c_eqDisk_same ak aw ak2 aw2 ck cw ck2 cw2 d _ (Hl.out _ (by (repeat (first | with_reducible exact Below.refl _ _ | ((with_reducible refine bl_alloc ?_ ?_); (focus (first | (simp; done) | (simp; omega) | omega))) | ((with_reducible refine bl_set ?_ ?_); (focus (first | (simp; done) | (simp; omega) | omega))) | ((with_reducible refine bl_later ?_ ?_); (focus (first | (simp; done) | (simp; omega) | omega))) | with_reducible refine bl_drew ?_ | with_reducible refine bl_drewN ?_ | ((with_reducible refine bl_step (by assumption) ?_ ?_); (focus (first | (simp; done) | (simp; omega) | omega))))))) (Hl2.out _ (by (repeat (first | with_reducible exact Below.refl _ _ | ((with_reducible refine bl_alloc ?_ ?_); (focus (first | (simp; done) | (simp; omega) | omega))) | ((with_reducible refine bl_set ?_ ?_); (focus (first | (simp; done) | (simp; omega) | omega))) | ((with_reducible refine bl_later ?_ ?_); (focus (first | (simp; done) | (simp; omega) | omega))) | with_reducible refine bl_drew ?_ | with_reducible refine bl_drewN ?_ | ((with_reducible refine bl_step (by assumption) ?_ ?_); (focus (first | (simp; done) | (simp; omega) | omega)))))))).mono ?_
  rintro e w2 ⟨rfl, hb2⟩
  obtain ⟨hc, hf, hsz⟩ := bcell hb2
  have hz := hb2.size
  simp only [World.size_alloc] at hz
  go_wp2_with fail
  refine (c_eqDisk_same bk bw bk2 bw2 dk dw dk2 dw2 e _ (Hm.out _ (by (repeat (first | with_reducible exact Below.refl _ _ | ((with_reducible refine bl_alloc ?_ ?_); (focus (first | (simp; done) | (simp; omega) | omega))) | ((with_reducible refine bl_set ?_ ?_); (focus (first | (simp; done) | (simp; omega) | omega))) | ((with_reducible refine bl_later ?_ ?_); (focus (first | (simp; done) | (simp; omega) | omega))) | with_reducible refine bl_drew ?_ | with_reducible refine bl_drewN ?_ | ((with_reducible refine bl_step (by assumption) ?_ ?_); (focus (first | (simp; done) | (simp; omega) | omega))))))) (Hm2.out _ (by (repeat (first | with_reducible exact Below.refl _ _ | ((with_reducible refine bl_alloc ?_ ?_); (focus (first | (simp; done) | (simp; omega) | omega))) | ((with_reducible refine bl_set ?_ ?_); (focus (first | (simp; done) | (simp; omega) | omega))) | ((with_reducible refine bl_later ?_ ?_); (focus (first | (simp; done) | (simp; omega) | omega))) | with_reducible refine bl_drew ?_ | with_reducible refine bl_drewN ?_ | ((with_reducible refine bl_step (by assumption) ?_ ?_); (focus (first | (simp; done) | (simp; omega) | omega)))))))).mono ?_
  rintro e w3 ⟨rfl, hb3⟩
  go_wp2_with fail
  go_ret
  exact ⟨rfl, by (repeat (first | with_reducible exact Below.refl _ _ | ((with_reducible refine bl_alloc ?_ ?_); (focus (first | (simp; done) | (simp; omega) | omega))) | ((with_reducible refine bl_set ?_ ?_); (focus (first | (simp; done) | (simp; omega) | omega))) | ((with_reducible refine bl_later ?_ ?_); (focus (first | (simp; done) | (simp; omega) | omega))) | with_reducible refine bl_drew ?_ | with_reducible refine bl_drewN ?_ | ((with_reducible refine bl_step (by assumption) ?_ ?_); (focus (first | (simp; done) | (simp; omega) | omega)))))⟩

end Go.Proofs.Ytmjafclpeknpcaa
