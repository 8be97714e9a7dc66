/- JobsOk2 of the reference and of the program. -/
import Derived.Test.YtpfkfppooeikeaaOpen
namespace Go.Proofs.Ytpfkfppooeikeaa
open Go.RowKit
set_option maxHeartbeats 800000
set_option maxRecDepth 100000

def jobsOk (i t h e u : Int) (l : List (Int × Int)) : Bool := inB i 0 2000 && (inB t 0 1000000 && ((h == 0 || (h == 2 || h == 3)) && (inB e 0 1000 && (inB u 0 1001000 && openOk l))))

theorem c_spec_JobsOk2 (i t h e u : Int) (ao : Option Addr) (cap : Nat) (l : List (Int × Int)) (w : World) (hl : ReadA dueE w ao l) :
    Calls Try.prog 132 #[.agg #[.int .i64 i, .int .i64 t, .int .i64 h, .int .i64 e, .int .i64 u, .slice ao l.length cap]] w fun e' w' => e' = .returned (.bool (jobsOk i t h e u l)) ∧ Below w.heap.size w w' := by
  have Hl : Hid (∀ o, ReadA dueE (w.alloc o) ao l) := fun o => hl.below ((Below.refl _ w).alloc (Nat.le_refl _) o)
  clear hl
  go_enter Try.func132, Try.ntmps132
  go_wp2_with (first | (go_at_call 107; refine (c_spec_l1In _ _ _ _).mono ?_; rintro e w' ⟨rfl, rfl⟩) | (go_at_call 161; refine (c_spec_TimeOk _ _).mono ?_; rintro e w' ⟨rfl, rfl⟩) | (go_at_call 162; refine (c_spec_sched _ _).mono ?_; rintro e w' ⟨rfl, rfl⟩) | (go_at_call 163; refine (c_spec_l11Open _ _ _ _ (Hl.out _)).mono ?_; rintro e w' ⟨rfl, hb⟩; have hz := hb.size; (try simp at hz)))
  all_goals go_ret
  all_goals (go_light; refine ⟨by simp_all [jobsOk], ?_⟩; (repeat (first | with_reducible exact Below.refl _ _ | ((with_reducible refine bl_alloc ?_ ?_); (focus (first | (simp; done) | (simp; omega) | omega))) | ((with_reducible refine bl_set ?_ ?_); (focus (first | (simp; done) | (simp; omega) | omega))) | ((with_reducible refine bl_later ?_ ?_); (focus (first | (simp; done) | (simp; omega) | omega))) | with_reducible refine bl_drew ?_ | with_reducible refine bl_drewN ?_ | ((with_reducible refine bl_step (by assumption) ?_ ?_); (focus (first | (simp; done) | (simp; omega) | omega))))))

/-- what the map of used ids holds after k elements -/
def usedF (l : List (Int × Int)) (k : Nat) (q : Int) : Option Value := if ((l.take k).any fun c => c.1 == q) = true then some (.bool true) else none
theorem usedF_zero (l : List (Int × Int)) : usedF l 0 = fun _ => none := by funext q; simp [usedF]
theorem usedF_getD (l : List (Int × Int)) (k : Nat) (q : Int) : (usedF l k q).getD (.bool false) = .bool ((l.take k).any fun c => c.1 == q) := by
  unfold usedF; cases (l.take k).any (fun c => c.1 == q) <;> rfl
theorem usedF_succ {l : List (Int × Int)} {k : Nat} (hk : k < l.length) : (fun q => if q = l[k].1 then some (Value.bool true) else usedF l k q) = usedF l (k + 1) := by
  funext q
  unfold usedF
  rw [List.take_succ_eq_append_getElem hk, List.any_append]
  by_cases h : q = l[k].1
  · subst h; simp
  · have h2 : (l[k].1 == q) = false := by simpa using fun e : l[k].1 = q => h e.symm
    rw [if_neg h]
    simp only [List.any_cons, List.any_nil, h2, Bool.or_false]

theorem zero_bool : ∀ W : World, (zeroValue 4).run Try.prog W = .ok (.bool false) W := fun _ => by kernel_rfl

set_option maxHeartbeats 4000000 in
theorem impl_JobsOk2_a (i t h e u : Int) (ao : Option Addr) (cap : Nat) (l : List (Int × Int)) (w : World) (hl : ReadA dueE w ao l) (hl8 : l.length ≤ 8) (h1 : inB i 0 2000 = true) (h2 : inB t 0 1000000 = true) (h4 : inB e 0 1000 = true) (h5 : inB u 0 1001000 = true) (Hj : Hid (jobsOk i t h e u l = openOk l)) (hh : (h != 0) = false) :
    Calls Try.prog 212 #[.agg #[.int .i64 i, .int .i64 t, .int .i64 h, .int .i64 e, .int .i64 u, .slice ao l.length cap]] w fun e' w' => e' = .returned (.bool (jobsOk i t h e u l)) ∧ Below w.heap.size w w' := by
  have hm := hl.2.1
  have hmm := @run_makeMap Try.prog
  go_enter Try.func212, Try.ntmps212
  go_wp2_with (first | (go_at_call 110; refine (c_impl_between _ _ _ _).mono ?_; rintro e w' ⟨rfl, rfl⟩) | (go_at_call 169; refine (c_impl_TimeOk _ _).mono ?_; rintro e w' ⟨rfl, rfl⟩) | (go_at_call 213; refine (c_impl_sched _ _).mono ?_; rintro e w' ⟨rfl, rfl⟩))
  go_loopw [47] (fun i wr => ∃ k : Nat, k ≤ l.length ∧ i = .int .i64 k ∧ Hid (∀ i, i < k → dueOk l i = true) ∧ MapI wr (w.heap.size + 1) (usedF l k) ∧ wr.cell? ⟨w.heap.size, 5, none⟩ = some (.slice ao l.length cap) ∧ Below w.heap.size w wr) (fun i _ => l.length - (intOf i).toNat)
  case atStart => exact ⟨0, Nat.zero_le _, rfl, fun i hi => by omega, by rw [usedF_zero]; simpa using MapI.made (w.alloc (Obj.cells #[.int .i64 i, .int .i64 t, .int .i64 h, .int .i64 e, .int .i64 u, .slice ao l.length cap] 99)), by simp, by (repeat (first | with_reducible exact Below.refl _ _ | ((with_reducible refine bl_alloc ?_ ?_); (focus (first | (simp; done) | (simp; omega) | omega))) | ((with_reducible refine bl_set ?_ ?_); (focus (first | (simp; done) | (simp; omega) | omega))) | ((with_reducible refine bl_later ?_ ?_); (focus (first | (simp; done) | (simp; omega) | omega))) | with_reducible refine bl_drew ?_ | with_reducible refine bl_drewN ?_ | ((with_reducible refine bl_step (by assumption) ?_ ?_); (focus (first | (simp; done) | (simp; omega) | omega)))))⟩
  case round =>
    obtain ⟨k, hk, rfl, Hall, hmap, hcell, hbel⟩ := hrel
    by_cases hlt : k < l.length
    · obtain ⟨b, off, rfl, hbl, hc⟩ := due_at hl hlt
      by_cases hk0 : k = 0
      · have Hk0 := Lib.hid hk0
        have hk1 : k ≤ 0 := by omega
        clear hk0
        have hbw := Nat.lt_of_lt_of_le hbl hbel.size
        have hck0 : _ := (hbel.cell (p := ⟨b, off + (k) * 2, none⟩) hbl).trans (hc (k) hlt).1
        have hck1 : _ := (hbel.cell (p := ⟨b, off + (k) * 2 + 1, none⟩) hbl).trans (hc (k) hlt).2
        clear hc
        have Heq := Lib.hid (dueOk_eq hlt)
        have hd1 : Hid (dueOk1 l (k) l[k] = (inB l[k].1 1 20 && inB l[k].2 0 1000000)) := by
          obtain rfl : k = 0 := Hk0.out
          simp [Hid, dueOk1, prevOk]
        have hmlt := hmap.lt
        have hbxlt : w.heap.size < wr.heap.size := World.block_lt_of_cell? wr _ hcell
        have hp : ((k : Nat) : Int) < l.length := by omega
        have hd0 : decide (0 < k) = false := by simp; omega
        have hd2 : decide ((0 : Int) < (k : Int)) = false := by simp; omega
        have hlook : ∀ (x : Later (wr.alloc (.cells #[.int .i64 l[k].1, .int .i64 l[k].2] 113))) (q : Int), (Instr.lookup 211 (.map (some (w.heap.size + 1))) (.int .i64 q) false).run Try.prog x.w = .ok (.bool ((l.take (k)).any fun c => c.1 == q)) x.w := fun x q => by
          have hmx : MapI x.w (w.heap.size + 1) (usedF l (k)) := hmap.same ((x.h.block _ (by simp; omega)).trans (Below.heap_alloc _ _ _ hmlt))
          rw [hmx.run_lookup Try.underlying211 Try.underlying2 _ zero_bool q, usedF_getD]
        have Hmap := Lib.hid hmap
        clear hmap
        have hal : ((k : Nat) : Int) ≤ 8 := by omega
        cases hu : ((l.take (k)).any fun c => c.1 == l[k].1)
        all_goals
          go_wp2_with fail
          refine wp_region_later (by kernel_rfl) (by kernel_rfl) ?_
          repeat (any_goals (first | go_big_quiet_step ((first | (go_at_call 177; exact later_same (c_impl_idOk _ _)) | (go_at_call 169; exact later_same (c_impl_TimeOk _ _)) | (go_at_call 214; exact later_call (c_impl_dueLess _ _ _ _ _)))) | quiet_step ((first | (go_at_call 177; exact later_same (c_impl_idOk _ _)) | (go_at_call 169; exact later_same (c_impl_TimeOk _ _)) | (go_at_call 214; exact later_call (c_impl_dueLess _ _ _ _ _)))) | (refine wpQuiet_step (fun K hK => ?_); go_simp; split <;> (refine hK _ ?_; clear hK K))))
          all_goals (refine wpQuiet_nil ?_; intro _ hw'; obtain ⟨x, hw''⟩ := hw'; subst hw'')
          any_goals (go_wp2_with fail; go_ret; exact ⟨by rw [Hj.out, openOk_bad hlt (by rw [Heq.out, hd1.out]; simp_all)]; rfl, by (repeat (first | with_reducible exact Below.refl _ _ | ((with_reducible refine bl_alloc ?_ ?_); (focus (first | (simp; done) | (simp; omega) | omega))) | ((with_reducible refine bl_set ?_ ?_); (focus (first | (simp; done) | (simp; omega) | omega))) | ((with_reducible refine bl_later ?_ ?_); (focus (first | (simp; done) | (simp; omega) | omega))) | with_reducible refine bl_drew ?_ | with_reducible refine bl_drewN ?_ | ((with_reducible refine bl_step (by assumption) ?_ ?_); (focus (first | (simp; done) | (simp; omega) | omega)))))⟩)
        have hbx : Below w.heap.size w x.w := by (repeat (first | with_reducible exact Below.refl _ _ | ((with_reducible refine bl_alloc ?_ ?_); (focus (first | (simp; done) | (simp; omega) | omega))) | ((with_reducible refine bl_set ?_ ?_); (focus (first | (simp; done) | (simp; omega) | omega))) | ((with_reducible refine bl_later ?_ ?_); (focus (first | (simp; done) | (simp; omega) | omega))) | with_reducible refine bl_drew ?_ | with_reducible refine bl_drewN ?_ | ((with_reducible refine bl_step (by assumption) ?_ ?_); (focus (first | (simp; done) | (simp; omega) | omega)))))
        have hmx : MapI x.w (w.heap.size + 1) (usedF l (k)) := Hmap.out.same ((x.h.block _ (by simp; omega)).trans (Below.heap_alloc _ _ _ hmlt))
        have hcx : x.w.cell? ⟨w.heap.size, 5, none⟩ = some (.slice (some ⟨b, off, none⟩) l.length cap) := by rw [x.h.cell (p := ⟨w.heap.size, 5, none⟩) (by simp; omega)]; exact (World.cell?_alloc_lt _ _ _ hbxlt).trans hcell
        have Hg : Hid (dueOk l (k) = true) := by show dueOk l (k) = true; rw [Heq.out, hd1.out, hu]; simp_all
        obtain ⟨w2, hrun, hmap2, hwr⟩ := hmx.run_update Try.underlying211 Try.underlying2 l[k].1 (.bool true)
        have Hmap2 := Lib.hid hmap2
        have Hwr := Lib.hid hwr
        clear hmap2 hwr hmx
        go_wp2
        go_roundw
        case rel => exact ⟨k + 1, by omega, by go_num, fun i hi => by
          by_cases he : i = k
          · subst he; exact Hg.out
          · exact Hall.out i (by omega), by rw [← usedF_succ hlt]; exact Hmap2.out, by rw [Hwr.out.cell (by omega)]; exact hcx, hbx.trans (Hwr.out.below (by omega))⟩
        case measure => simp [intOf]; omega
      · obtain ⟨k, rfl⟩ : ∃ j, k = j + 1 := ⟨k - 1, by omega⟩
        clear hk0
        have hbw := Nat.lt_of_lt_of_le hbl hbel.size
        have hck0 : _ := (hbel.cell (p := ⟨b, off + (k + 1) * 2, none⟩) hbl).trans (hc (k + 1) hlt).1
        have hck1 : _ := (hbel.cell (p := ⟨b, off + (k + 1) * 2 + 1, none⟩) hbl).trans (hc (k + 1) hlt).2
        have hlt' : k < l.length := by omega
        have hcj0 : _ := (hbel.cell (p := ⟨b, off + k * 2, none⟩) hbl).trans (hc k hlt').1
        have hcj1 : _ := (hbel.cell (p := ⟨b, off + k * 2 + 1, none⟩) hbl).trans (hc k hlt').2
        clear hc
        have Heq := Lib.hid (dueOk_eq hlt)
        have hd1 : Hid (dueOk1 l (k + 1) l[k + 1] = (inB l[k + 1].1 1 20 && inB l[k + 1].2 0 1000000 && dueLess l[k] l[k + 1])) := by
          simp [Hid, dueOk1, prevOk, List.getElem?_eq_getElem hlt']
        have hmlt := hmap.lt
        have hbxlt : w.heap.size < wr.heap.size := World.block_lt_of_cell? wr _ hcell
        have hp : ((k + 1 : Nat) : Int) < l.length := by omega
        have hpk2 : (k : Int) + 1 < l.length := by omega
        have hlook : ∀ (x : Later (wr.alloc (.cells #[.int .i64 l[k + 1].1, .int .i64 l[k + 1].2] 113))) (q : Int), (Instr.lookup 211 (.map (some (w.heap.size + 1))) (.int .i64 q) false).run Try.prog x.w = .ok (.bool ((l.take (k + 1)).any fun c => c.1 == q)) x.w := fun x q => by
          have hmx : MapI x.w (w.heap.size + 1) (usedF l (k + 1)) := hmap.same ((x.h.block _ (by simp; omega)).trans (Below.heap_alloc _ _ _ hmlt))
          rw [hmx.run_lookup Try.underlying211 Try.underlying2 _ zero_bool q, usedF_getD]
        have Hmap := Lib.hid hmap
        clear hmap
        have hal : ((k + 1 : Nat) : Int) ≤ 8 := by omega
        cases hu : ((l.take (k + 1)).any fun c => c.1 == l[k + 1].1)
        all_goals
          go_wp2_with fail
          refine wp_region_later (by kernel_rfl) (by kernel_rfl) ?_
          repeat (any_goals (first | go_big_quiet_step ((first | (go_at_call 177; exact later_same (c_impl_idOk _ _)) | (go_at_call 169; exact later_same (c_impl_TimeOk _ _)) | (go_at_call 214; exact later_call (c_impl_dueLess _ _ _ _ _)))) | quiet_step ((first | (go_at_call 177; exact later_same (c_impl_idOk _ _)) | (go_at_call 169; exact later_same (c_impl_TimeOk _ _)) | (go_at_call 214; exact later_call (c_impl_dueLess _ _ _ _ _)))) | (refine wpQuiet_step (fun K hK => ?_); go_simp; split <;> (refine hK _ ?_; clear hK K))))
          all_goals (refine wpQuiet_nil ?_; intro _ hw'; obtain ⟨x, hw''⟩ := hw'; subst hw'')
          any_goals (go_wp2_with fail; go_ret; exact ⟨by rw [Hj.out, openOk_bad hlt (by rw [Heq.out, hd1.out]; simp_all)]; rfl, by (repeat (first | with_reducible exact Below.refl _ _ | ((with_reducible refine bl_alloc ?_ ?_); (focus (first | (simp; done) | (simp; omega) | omega))) | ((with_reducible refine bl_set ?_ ?_); (focus (first | (simp; done) | (simp; omega) | omega))) | ((with_reducible refine bl_later ?_ ?_); (focus (first | (simp; done) | (simp; omega) | omega))) | with_reducible refine bl_drew ?_ | with_reducible refine bl_drewN ?_ | ((with_reducible refine bl_step (by assumption) ?_ ?_); (focus (first | (simp; done) | (simp; omega) | omega)))))⟩)
        have hbx : Below w.heap.size w x.w := by (repeat (first | with_reducible exact Below.refl _ _ | ((with_reducible refine bl_alloc ?_ ?_); (focus (first | (simp; done) | (simp; omega) | omega))) | ((with_reducible refine bl_set ?_ ?_); (focus (first | (simp; done) | (simp; omega) | omega))) | ((with_reducible refine bl_later ?_ ?_); (focus (first | (simp; done) | (simp; omega) | omega))) | with_reducible refine bl_drew ?_ | with_reducible refine bl_drewN ?_ | ((with_reducible refine bl_step (by assumption) ?_ ?_); (focus (first | (simp; done) | (simp; omega) | omega)))))
        have hmx : MapI x.w (w.heap.size + 1) (usedF l (k + 1)) := Hmap.out.same ((x.h.block _ (by simp; omega)).trans (Below.heap_alloc _ _ _ hmlt))
        have hcx : x.w.cell? ⟨w.heap.size, 5, none⟩ = some (.slice (some ⟨b, off, none⟩) l.length cap) := by rw [x.h.cell (p := ⟨w.heap.size, 5, none⟩) (by simp; omega)]; exact (World.cell?_alloc_lt _ _ _ hbxlt).trans hcell
        have Hg : Hid (dueOk l (k + 1) = true) := by show dueOk l (k + 1) = true; rw [Heq.out, hd1.out, hu]; simp_all
        obtain ⟨w2, hrun, hmap2, hwr⟩ := hmx.run_update Try.underlying211 Try.underlying2 l[k + 1].1 (.bool true)
        have Hmap2 := Lib.hid hmap2
        have Hwr := Lib.hid hwr
        clear hmap2 hwr hmx
        go_wp2_with fail
        rw [hrun]
        go_wp2
        go_roundw
        case rel => exact ⟨k + 1 + 1, by omega, by go_num, fun i hi => by
          by_cases he : i = k + 1
          · subst he; exact Hg.out
          · exact Hall.out i (by omega), by rw [← usedF_succ hlt]; exact Hmap2.out, by rw [Hwr.out.cell (by omega)]; exact hcx, hbx.trans (Hwr.out.below (by omega))⟩
        case measure => simp [intOf]; omega
    · go_wp2
      go_ret
      exact ⟨by rw [Hj.out, openOk_good hl8 fun i hi => Hall.out i (by omega)]; rfl, hbel⟩

set_option maxHeartbeats 4000000 in
theorem impl_JobsOk2_b (i t h e u : Int) (ao : Option Addr) (cap : Nat) (l : List (Int × Int)) (w : World) (hl : ReadA dueE w ao l) (hl8 : l.length ≤ 8) (h1 : inB i 0 2000 = true) (h2 : inB t 0 1000000 = true) (h4 : inB e 0 1000 = true) (h5 : inB u 0 1001000 = true) (Hj : Hid (jobsOk i t h e u l = openOk l)) (hh : (h != 0) = true) (hh2 : (h == 2 || h == 3) = true) :
    Calls Try.prog 212 #[.agg #[.int .i64 i, .int .i64 t, .int .i64 h, .int .i64 e, .int .i64 u, .slice ao l.length cap]] w fun e' w' => e' = .returned (.bool (jobsOk i t h e u l)) ∧ Below w.heap.size w w' := by
  have hm := hl.2.1
  have hmm := @run_makeMap Try.prog
  go_enter Try.func212, Try.ntmps212
  go_wp2_with (first | (go_at_call 110; refine (c_impl_between _ _ _ _).mono ?_; rintro e w' ⟨rfl, rfl⟩) | (go_at_call 169; refine (c_impl_TimeOk _ _).mono ?_; rintro e w' ⟨rfl, rfl⟩) | (go_at_call 213; refine (c_impl_sched _ _).mono ?_; rintro e w' ⟨rfl, rfl⟩))
  go_loopw [47] (fun i wr => ∃ k : Nat, k ≤ l.length ∧ i = .int .i64 k ∧ Hid (∀ i, i < k → dueOk l i = true) ∧ MapI wr (w.heap.size + 1) (usedF l k) ∧ wr.cell? ⟨w.heap.size, 5, none⟩ = some (.slice ao l.length cap) ∧ Below w.heap.size w wr) (fun i _ => l.length - (intOf i).toNat)
  case atStart => exact ⟨0, Nat.zero_le _, rfl, fun i hi => by omega, by rw [usedF_zero]; simpa using MapI.made (w.alloc (Obj.cells #[.int .i64 i, .int .i64 t, .int .i64 h, .int .i64 e, .int .i64 u, .slice ao l.length cap] 99)), by simp, by (repeat (first | with_reducible exact Below.refl _ _ | ((with_reducible refine bl_alloc ?_ ?_); (focus (first | (simp; done) | (simp; omega) | omega))) | ((with_reducible refine bl_set ?_ ?_); (focus (first | (simp; done) | (simp; omega) | omega))) | ((with_reducible refine bl_later ?_ ?_); (focus (first | (simp; done) | (simp; omega) | omega))) | with_reducible refine bl_drew ?_ | with_reducible refine bl_drewN ?_ | ((with_reducible refine bl_step (by assumption) ?_ ?_); (focus (first | (simp; done) | (simp; omega) | omega)))))⟩
  case round =>
    obtain ⟨k, hk, rfl, Hall, hmap, hcell, hbel⟩ := hrel
    by_cases hlt : k < l.length
    · obtain ⟨b, off, rfl, hbl, hc⟩ := due_at hl hlt
      by_cases hk0 : k = 0
      · have Hk0 := Lib.hid hk0
        have hk1 : k ≤ 0 := by omega
        clear hk0
        have hbw := Nat.lt_of_lt_of_le hbl hbel.size
        have hck0 : _ := (hbel.cell (p := ⟨b, off + (k) * 2, none⟩) hbl).trans (hc (k) hlt).1
        have hck1 : _ := (hbel.cell (p := ⟨b, off + (k) * 2 + 1, none⟩) hbl).trans (hc (k) hlt).2
        clear hc
        have Heq := Lib.hid (dueOk_eq hlt)
        have hd1 : Hid (dueOk1 l (k) l[k] = (inB l[k].1 1 20 && inB l[k].2 0 1000000)) := by
          obtain rfl : k = 0 := Hk0.out
          simp [Hid, dueOk1, prevOk]
        have hmlt := hmap.lt
        have hbxlt : w.heap.size < wr.heap.size := World.block_lt_of_cell? wr _ hcell
        have hp : ((k : Nat) : Int) < l.length := by omega
        have hd0 : decide (0 < k) = false := by simp; omega
        have hd2 : decide ((0 : Int) < (k : Int)) = false := by simp; omega
        have hlook : ∀ (x : Later (wr.alloc (.cells #[.int .i64 l[k].1, .int .i64 l[k].2] 113))) (q : Int), (Instr.lookup 211 (.map (some (w.heap.size + 1))) (.int .i64 q) false).run Try.prog x.w = .ok (.bool ((l.take (k)).any fun c => c.1 == q)) x.w := fun x q => by
          have hmx : MapI x.w (w.heap.size + 1) (usedF l (k)) := hmap.same ((x.h.block _ (by simp; omega)).trans (Below.heap_alloc _ _ _ hmlt))
          rw [hmx.run_lookup Try.underlying211 Try.underlying2 _ zero_bool q, usedF_getD]
        have Hmap := Lib.hid hmap
        clear hmap
        have hal : ((k : Nat) : Int) ≤ 8 := by omega
        cases hu : ((l.take (k)).any fun c => c.1 == l[k].1)
        all_goals
          go_wp2_with fail
          refine wp_region_later (by kernel_rfl) (by kernel_rfl) ?_
          repeat (any_goals (first | go_big_quiet_step ((first | (go_at_call 177; exact later_same (c_impl_idOk _ _)) | (go_at_call 169; exact later_same (c_impl_TimeOk _ _)) | (go_at_call 214; exact later_call (c_impl_dueLess _ _ _ _ _)))) | quiet_step ((first | (go_at_call 177; exact later_same (c_impl_idOk _ _)) | (go_at_call 169; exact later_same (c_impl_TimeOk _ _)) | (go_at_call 214; exact later_call (c_impl_dueLess _ _ _ _ _)))) | (refine wpQuiet_step (fun K hK => ?_); go_simp; split <;> (refine hK _ ?_; clear hK K))))
          all_goals (refine wpQuiet_nil ?_; intro _ hw'; obtain ⟨x, hw''⟩ := hw'; subst hw'')
          any_goals (go_wp2_with fail; go_ret; exact ⟨by rw [Hj.out, openOk_bad hlt (by rw [Heq.out, hd1.out]; simp_all)]; rfl, by (repeat (first | with_reducible exact Below.refl _ _ | ((with_reducible refine bl_alloc ?_ ?_); (focus (first | (simp; done) | (simp; omega) | omega))) | ((with_reducible refine bl_set ?_ ?_); (focus (first | (simp; done) | (simp; omega) | omega))) | ((with_reducible refine bl_later ?_ ?_); (focus (first | (simp; done) | (simp; omega) | omega))) | with_reducible refine bl_drew ?_ | with_reducible refine bl_drewN ?_ | ((with_reducible refine bl_step (by assumption) ?_ ?_); (focus (first | (simp; done) | (simp; omega) | omega)))))⟩)
        have hbx : Below w.heap.size w x.w := by (repeat (first | with_reducible exact Below.refl _ _ | ((with_reducible refine bl_alloc ?_ ?_); (focus (first | (simp; done) | (simp; omega) | omega))) | ((with_reducible refine bl_set ?_ ?_); (focus (first | (simp; done) | (simp; omega) | omega))) | ((with_reducible refine bl_later ?_ ?_); (focus (first | (simp; done) | (simp; omega) | omega))) | with_reducible refine bl_drew ?_ | with_reducible refine bl_drewN ?_ | ((with_reducible refine bl_step (by assumption) ?_ ?_); (focus (first | (simp; done) | (simp; omega) | omega)))))
        have hmx : MapI x.w (w.heap.size + 1) (usedF l (k)) := Hmap.out.same ((x.h.block _ (by simp; omega)).trans (Below.heap_alloc _ _ _ hmlt))
        have hcx : x.w.cell? ⟨w.heap.size, 5, none⟩ = some (.slice (some ⟨b, off, none⟩) l.length cap) := by rw [x.h.cell (p := ⟨w.heap.size, 5, none⟩) (by simp; omega)]; exact (World.cell?_alloc_lt _ _ _ hbxlt).trans hcell
        have Hg : Hid (dueOk l (k) = true) := by show dueOk l (k) = true; rw [Heq.out, hd1.out, hu]; simp_all
        obtain ⟨w2, hrun, hmap2, hwr⟩ := hmx.run_update Try.underlying211 Try.underlying2 l[k].1 (.bool true)
        have Hmap2 := Lib.hid hmap2
        have Hwr := Lib.hid hwr
        clear hmap2 hwr hmx
        go_wp2
        go_roundw
        case rel => exact ⟨k + 1, by omega, by go_num, fun i hi => by
          by_cases he : i = k
          · subst he; exact Hg.out
          · exact Hall.out i (by omega), by rw [← usedF_succ hlt]; exact Hmap2.out, by rw [Hwr.out.cell (by omega)]; exact hcx, hbx.trans (Hwr.out.below (by omega))⟩
        case measure => simp [intOf]; omega
      · obtain ⟨k, rfl⟩ : ∃ j, k = j + 1 := ⟨k - 1, by omega⟩
        clear hk0
        have hbw := Nat.lt_of_lt_of_le hbl hbel.size
        have hck0 : _ := (hbel.cell (p := ⟨b, off + (k + 1) * 2, none⟩) hbl).trans (hc (k + 1) hlt).1
        have hck1 : _ := (hbel.cell (p := ⟨b, off + (k + 1) * 2 + 1, none⟩) hbl).trans (hc (k + 1) hlt).2
        have hlt' : k < l.length := by omega
        have hcj0 : _ := (hbel.cell (p := ⟨b, off + k * 2, none⟩) hbl).trans (hc k hlt').1
        have hcj1 : _ := (hbel.cell (p := ⟨b, off + k * 2 + 1, none⟩) hbl).trans (hc k hlt').2
        clear hc
        have Heq := Lib.hid (dueOk_eq hlt)
        have hd1 : Hid (dueOk1 l (k + 1) l[k + 1] = (inB l[k + 1].1 1 20 && inB l[k + 1].2 0 1000000 && dueLess l[k] l[k + 1])) := by
          simp [Hid, dueOk1, prevOk, List.getElem?_eq_getElem hlt']
        have hmlt := hmap.lt
        have hbxlt : w.heap.size < wr.heap.size := World.block_lt_of_cell? wr _ hcell
        have hp : ((k + 1 : Nat) : Int) < l.length := by omega
        have hpk2 : (k : Int) + 1 < l.length := by omega
        have hlook : ∀ (x : Later (wr.alloc (.cells #[.int .i64 l[k + 1].1, .int .i64 l[k + 1].2] 113))) (q : Int), (Instr.lookup 211 (.map (some (w.heap.size + 1))) (.int .i64 q) false).run Try.prog x.w = .ok (.bool ((l.take (k + 1)).any fun c => c.1 == q)) x.w := fun x q => by
          have hmx : MapI x.w (w.heap.size + 1) (usedF l (k + 1)) := hmap.same ((x.h.block _ (by simp; omega)).trans (Below.heap_alloc _ _ _ hmlt))
          rw [hmx.run_lookup Try.underlying211 Try.underlying2 _ zero_bool q, usedF_getD]
        have Hmap := Lib.hid hmap
        clear hmap
        have hal : ((k + 1 : Nat) : Int) ≤ 8 := by omega
        cases hu : ((l.take (k + 1)).any fun c => c.1 == l[k + 1].1)
        all_goals
          go_wp2_with fail
          refine wp_region_later (by kernel_rfl) (by kernel_rfl) ?_
          repeat (any_goals (first | go_big_quiet_step ((first | (go_at_call 177; exact later_same (c_impl_idOk _ _)) | (go_at_call 169; exact later_same (c_impl_TimeOk _ _)) | (go_at_call 214; exact later_call (c_impl_dueLess _ _ _ _ _)))) | quiet_step ((first | (go_at_call 177; exact later_same (c_impl_idOk _ _)) | (go_at_call 169; exact later_same (c_impl_TimeOk _ _)) | (go_at_call 214; exact later_call (c_impl_dueLess _ _ _ _ _)))) | (refine wpQuiet_step (fun K hK => ?_); go_simp; split <;> (refine hK _ ?_; clear hK K))))
          all_goals (refine wpQuiet_nil ?_; intro _ hw'; obtain ⟨x, hw''⟩ := hw'; subst hw'')
          any_goals (go_wp2_with fail; go_ret; exact ⟨by rw [Hj.out, openOk_bad hlt (by rw [Heq.out, hd1.out]; simp_all)]; rfl, by (repeat (first | with_reducible exact Below.refl _ _ | ((with_reducible refine bl_alloc ?_ ?_); (focus (first | (simp; done) | (simp; omega) | omega))) | ((with_reducible refine bl_set ?_ ?_); (focus (first | (simp; done) | (simp; omega) | omega))) | ((with_reducible refine bl_later ?_ ?_); (focus (first | (simp; done) | (simp; omega) | omega))) | with_reducible refine bl_drew ?_ | with_reducible refine bl_drewN ?_ | ((with_reducible refine bl_step (by assumption) ?_ ?_); (focus (first | (simp; done) | (simp; omega) | omega)))))⟩)
        have hbx : Below w.heap.size w x.w := by (repeat (first | with_reducible exact Below.refl _ _ | ((with_reducible refine bl_alloc ?_ ?_); (focus (first | (simp; done) | (simp; omega) | omega))) | ((with_reducible refine bl_set ?_ ?_); (focus (first | (simp; done) | (simp; omega) | omega))) | ((with_reducible refine bl_later ?_ ?_); (focus (first | (simp; done) | (simp; omega) | omega))) | with_reducible refine bl_drew ?_ | with_reducible refine bl_drewN ?_ | ((with_reducible refine bl_step (by assumption) ?_ ?_); (focus (first | (simp; done) | (simp; omega) | omega)))))
        have hmx : MapI x.w (w.heap.size + 1) (usedF l (k + 1)) := Hmap.out.same ((x.h.block _ (by simp; omega)).trans (Below.heap_alloc _ _ _ hmlt))
        have hcx : x.w.cell? ⟨w.heap.size, 5, none⟩ = some (.slice (some ⟨b, off, none⟩) l.length cap) := by rw [x.h.cell (p := ⟨w.heap.size, 5, none⟩) (by simp; omega)]; exact (World.cell?_alloc_lt _ _ _ hbxlt).trans hcell
        have Hg : Hid (dueOk l (k + 1) = true) := by show dueOk l (k + 1) = true; rw [Heq.out, hd1.out, hu]; simp_all
        obtain ⟨w2, hrun, hmap2, hwr⟩ := hmx.run_update Try.underlying211 Try.underlying2 l[k + 1].1 (.bool true)
        have Hmap2 := Lib.hid hmap2
        have Hwr := Lib.hid hwr
        clear hmap2 hwr hmx
        go_wp2_with fail
        rw [hrun]
        go_wp2
        go_roundw
        case rel => exact ⟨k + 1 + 1, by omega, by go_num, fun i hi => by
          by_cases he : i = k + 1
          · subst he; exact Hg.out
          · exact Hall.out i (by omega), by rw [← usedF_succ hlt]; exact Hmap2.out, by rw [Hwr.out.cell (by omega)]; exact hcx, hbx.trans (Hwr.out.below (by omega))⟩
        case measure => simp [intOf]; omega
    · go_wp2
      go_ret
      exact ⟨by rw [Hj.out, openOk_good hl8 fun i hi => Hall.out i (by omega)]; rfl, hbel⟩

set_option maxHeartbeats 4000000 in
theorem c_impl_JobsOk2 (i t h e u : Int) (ao : Option Addr) (cap : Nat) (l : List (Int × Int)) (w : World) (hl : ReadA dueE w ao l) :
    Calls Try.prog 212 #[.agg #[.int .i64 i, .int .i64 t, .int .i64 h, .int .i64 e, .int .i64 u, .slice ao l.length cap]] w fun e' w' => e' = .returned (.bool (jobsOk i t h e u l)) ∧ Below w.heap.size w w' := by
  have hm := hl.2.1
  have hmm := @run_makeMap Try.prog
  by_cases hc : (inB i 0 2000 && (inB t 0 1000000 && ((h == 0 || (h == 2 || h == 3)) && (inB e 0 1000 && (inB u 0 1001000 && decide (l.length ≤ 8)))))) = true
  · simp only [Bool.and_eq_true] at hc
    obtain ⟨h1, h2, h3, h4, h5, h6⟩ := hc
    have Hj : Hid (jobsOk i t h e u l = openOk l) := by show jobsOk i t h e u l = openOk l; simp only [jobsOk, h1, h2, h3, h4, h5, Bool.true_and]
    have hl8 : l.length ≤ 8 := by simpa using h6
    have hh : (h != 0) = false ∨ ((h != 0) = true ∧ (h == 2 || h == 3) = true) := by
      by_cases h0 : h = 0
      · left; simp [h0]
      · right; refine ⟨by simp [h0], ?_⟩; simpa [h0] using h3
    clear h3 h6
    rcases hh with hh | ⟨hh, hh2⟩
    · exact impl_JobsOk2_a i t h e u ao cap l w hl hl8 h1 h2 h4 h5 Hj hh
    · exact impl_JobsOk2_b i t h e u ao cap l w hl hl8 h1 h2 h4 h5 Hj hh hh2
  · go_enter Try.func212, Try.ntmps212
    go_wp2_with (first | (go_at_call 110; refine (c_impl_between _ _ _ _).mono ?_; rintro e w' ⟨rfl, rfl⟩) | (go_at_call 169; refine (c_impl_TimeOk _ _).mono ?_; rintro e w' ⟨rfl, rfl⟩) | (go_at_call 213; refine (c_impl_sched _ _).mono ?_; rintro e w' ⟨rfl, rfl⟩))
    any_goals (go_ret; go_light; refine ⟨by (have hj : jobsOk i t h e u l = false := by (simp_all [jobsOk, openOk] <;> (intro hx; omega))); rw [hj]; rfl, ?_⟩; (repeat (first | with_reducible exact Below.refl _ _ | ((with_reducible refine bl_alloc ?_ ?_); (focus (first | (simp; done) | (simp; omega) | omega))) | ((with_reducible refine bl_set ?_ ?_); (focus (first | (simp; done) | (simp; omega) | omega))) | ((with_reducible refine bl_later ?_ ?_); (focus (first | (simp; done) | (simp; omega) | omega))) | with_reducible refine bl_drew ?_ | with_reducible refine bl_drewN ?_ | ((with_reducible refine bl_step (by assumption) ?_ ?_); (focus (first | (simp; done) | (simp; omega) | omega))))))
    all_goals (exfalso; apply hc; clear hc; go_light; simp_all; try omega)
end Go.Proofs.Ytpfkfppooeikeaa
