/- Walks of functions of the program, printed by a program of the prover. -/
import Derived.Test.YtpfkfppooeikeaaJobsF
import Derived.WalkKit
import Derived.WalkSpells
import Derived.Deep.QuietTactic
import Derived.BigQuiet
import Derived.Deep.Light
import Derived.Lib.Hide
import Derived.Deep.RegionHeld3
namespace Go.Proofs.Ytpfkfppooeikeaa
open Go.ChangeShapes Go.WideShapes Go.ChangeAt Go.RowKit Go.Deep
set_option maxHeartbeats 1600000
set_option maxRecDepth 100000

theorem c_spec_JobsRow (ji jt jh je ju : Int) (ao : Option Addr) (cap : Nat) (l : List (Int × Int)) (w : World) (yji : inI64 ji) (yjt : inI64 jt) (yjh : inI64 jh) (yje : inI64 je) (yju : inI64 ju) (hl : ReadA dueE w ao l) : Calls Try.prog 76 #[.agg #[.int .i64 ji, .int .i64 jt, .int .i64 jh, .int .i64 je, .int .i64 ju, .slice ao l.length cap]] w (RetI w 2 (rowJobs ji jt jh je ju l)) := by
  have hm := hl.2.1
  have Hl : Hid (∀ W, Below w.heap.size w W → ReadA dueE W ao l) := fun W hb => hl.below hb
  obtain ⟨i0, hi, hz0, hz1, hz2⟩ := info_parts info_int64
  cases hE : (jobsOk ji jt jh je ju l)
  · rw [rowJobs_f hE]
    go_enter Try.func76, Try.ntmps76
    go_wp2_with (go_at_call 132; refine (c_spec_JobsOk2 _ _ _ _ _ _ _ _ _ (Hl.out _ (by (repeat (first | with_reducible exact Below.refl _ _ | ((with_reducible refine bl_alloc ?_ ?_); (focus (first | (simp; done) | (simp; omega) | omega))) | ((with_reducible refine bl_set ?_ ?_); (focus (first | (simp; done) | (simp; omega) | omega))) | ((with_reducible refine bl_later ?_ ?_); (focus (first | (simp; done) | (simp; omega) | omega))) | with_reducible refine bl_drew ?_ | with_reducible refine bl_drewN ?_ | ((with_reducible refine bl_step (by assumption) ?_ ?_); (focus (first | (simp; done) | (simp; omega) | omega)))))))).mono ?_; rintro e w1 ⟨rfl, hb1⟩; have hBx := (Bx.new w _ 99).below hb1; have hw1 : Below w.heap.size w w1 := bl_step hb1 (by simp) ((Below.refl _ w).alloc (Nat.le_refl _) _); have hsz1 := hb1.size; (try simp only [World.size_alloc] at hsz1); have hc := hBx.2; clear hb1)
    go_ret
    exact ⟨_, _, rfl, owns_empty w1 _ _ (by omega), by (repeat (first | with_reducible exact Below.refl _ _ | ((with_reducible refine bl_alloc ?_ ?_); (focus (first | (simp; done) | (simp; omega) | omega))) | ((with_reducible refine bl_set ?_ ?_); (focus (first | (simp; done) | (simp; omega) | omega))) | ((with_reducible refine bl_later ?_ ?_); (focus (first | (simp; done) | (simp; omega) | omega))) | with_reducible refine bl_drew ?_ | with_reducible refine bl_drewN ?_ | ((with_reducible refine bl_step (by assumption) ?_ ?_); (focus (first | (simp; done) | (simp; omega) | omega)))))⟩
  · rw [rowJobs_t hE]
    have hs : l.length ≤ 1000 := (by simp only [jobsOk, openOk, Bool.and_eq_true, decide_eq_true_eq] at hE; have h7 := hE.2.2.2.2.2.1; omega)
    have Hlen : Hid (∀ k, k ≤ l.length → (accL [9, ji, jt, jh, je, ju] dueNums l k).length = 6 + k * 2) := fun k hk => by rw [length_accL len_dueNums _ _ hk]; rfl
    have k9 : inI64 9 := by simp [inI64]
    have Hin : Hid (∀ x ∈ [9, ji, jt, jh, je, ju], inI64 x) := by intro x hx; simp only [List.mem_cons, List.not_mem_nil, or_false] at hx; rcases hx with rfl | rfl | rfl | rfl | rfl | rfl <;> assumption
    go_enter Try.func76, Try.ntmps76
    go_wp2_with (go_at_call 132; refine (c_spec_JobsOk2 _ _ _ _ _ _ _ _ _ (Hl.out _ (by (repeat (first | with_reducible exact Below.refl _ _ | ((with_reducible refine bl_alloc ?_ ?_); (focus (first | (simp; done) | (simp; omega) | omega))) | ((with_reducible refine bl_set ?_ ?_); (focus (first | (simp; done) | (simp; omega) | omega))) | ((with_reducible refine bl_later ?_ ?_); (focus (first | (simp; done) | (simp; omega) | omega))) | with_reducible refine bl_drew ?_ | with_reducible refine bl_drewN ?_ | ((with_reducible refine bl_step (by assumption) ?_ ?_); (focus (first | (simp; done) | (simp; omega) | omega)))))))).mono ?_; rintro e w1 ⟨rfl, hb1⟩; have hBx := (Bx.new w _ 99).below hb1; have hw1 : Below w.heap.size w w1 := bl_step hb1 (by simp) ((Below.refl _ w).alloc (Nat.le_refl _) _); have hsz1 := hb1.size; (try simp only [World.size_alloc] at hsz1); have hc := hBx.2; clear hb1)
    have hst := owns_lit w1 (w.heap.size + 1) 2 [9, ji, jt, jh, je, ju] (by omega) (by simp) Hin.out
    have Hst := Lib.hid hst
    clear hst hc
    go_loopw [3, 4] (fun v i wr => ∃ (k : Nat) (ao' : Option Addr) (cap' : Nat), k ≤ l.length ∧ i = .int .i64 k ∧ v = .slice ao' (accL [9, ji, jt, jh, je, ju] dueNums l k).length cap' ∧ Hid (IntsO wr (w.heap.size + 1) 2 (.slice ao' (accL [9, ji, jt, jh, je, ju] dueNums l k).length cap') (accL [9, ji, jt, jh, je, ju] dueNums l k)) ∧ Bx wr w.heap.size [.int .i64 ji, .int .i64 jt, .int .i64 jh, .int .i64 je, .int .i64 ju, .slice ao l.length cap] ∧ Below w.heap.size w wr) (fun _ i _ => l.length - (intOf i).toNat)
    case atStart => exact ⟨0, _, _, Nat.zero_le _, rfl, by rw [accL_zero]; rfl, by rw [accL_zero]; exact Hst.out, hBx.alloc _, by (repeat (first | with_reducible exact Below.refl _ _ | ((with_reducible refine bl_alloc ?_ ?_); (focus (first | (simp; done) | (simp; omega) | omega))) | ((with_reducible refine bl_set ?_ ?_); (focus (first | (simp; done) | (simp; omega) | omega))) | ((with_reducible refine bl_later ?_ ?_); (focus (first | (simp; done) | (simp; omega) | omega))) | with_reducible refine bl_drew ?_ | with_reducible refine bl_drewN ?_ | ((with_reducible refine bl_step (by assumption) ?_ ?_); (focus (first | (simp; done) | (simp; omega) | omega)))))⟩
    case round =>
    obtain ⟨k, ao', cap', hk, rfl, rfl, Hown, hBx, hbel⟩ := hrel
    by_cases hlt : k < l.length
    · obtain ⟨b, off, rfl, hbl, hc⟩ := due_at hl hlt
      have hbw := Nat.lt_of_lt_of_le hbl hbel.size
      have ck0 := (hc k hlt).1
      have ck1 := (hc k hlt).2
      clear hc
      have hsz := hbel.size
      have hlk := Hlen.out k hk
      have hlo := Hown.out.2.2.1
      have Hok : Hid (inI64 l[k].1 ∧ inI64 l[k].2) := hl.1 _ (List.getElem_mem hlt)
      have Hnok : Hid (∀ x ∈ dueNums l[k], inI64 x) := dueNums_ok (hl.1 _ (List.getElem_mem hlt))
      have hp : (k : Int) < l.length := by omega
      have hBlt := hBx.1
      have Hlk := Lib.hid hlk
      clear hlk
      have hcl := hBx.2
      go_wp2_with fail
      refine restS_begin (SB w w.heap.size [.int .i64 ji, .int .i64 jt, .int .i64 jh, .int .i64 je, .int .i64 ju, .slice (some ⟨b, off, none⟩) l.length cap]) (by kernel_rfl) (SB.start hbel hBx) ?_
      have hOw := Hown.out.below (Below.refl _ _).drew
      refine restS_take (v := ?_) 0 rfl (by kernel_rfl) (by kernel_rfl) (by kernel_rfl) (fun _ _ _ h => h) (by rfl) ?_ ?_
      rotate_left
      · intro w9 h9; try dsimp only at h9
        go_split_ands
        go_simp; try with_reducible rfl
      try simp only [Act.put, List.setIfInBounds_toArray, List.set_cons_zero, List.set_cons_succ]
      refine restS_take (v := ?_) 1 rfl (by kernel_rfl) (by kernel_rfl) (by kernel_rfl) (fun _ _ _ h => h) (by rfl) ?_ ?_
      rotate_left
      · intro w9 h9; try dsimp only at h9
        go_split_ands
        go_simp; try with_reducible rfl
      try simp only [Act.put, List.setIfInBounds_toArray, List.set_cons_zero, List.set_cons_succ]
      refine restS_take (v := ?_) 2 rfl (by kernel_rfl) (by kernel_rfl) (by kernel_rfl) (fun _ _ _ h => h) (by rfl) ?_ ?_
      rotate_left
      · intro w9 h9; obtain ⟨h8, h9⟩ := h9; obtain ⟨x9, rfl⟩ := later_of h8; replace h9 := h9.2; clear h8
        go_simp; try with_reducible rfl
      try simp only [Act.put, List.setIfInBounds_toArray, List.set_cons_zero, List.set_cons_succ]
      refine restS_take (v := ?_) 3 rfl (by kernel_rfl) (by kernel_rfl) (by kernel_rfl) (fun _ _ _ h => h) (by rfl) ?_ ?_
      rotate_left
      · intro w9 h9; try dsimp only at h9
        go_split_ands
        go_simp; try with_reducible rfl
      try simp only [Act.put, List.setIfInBounds_toArray, List.set_cons_zero, List.set_cons_succ]
      refine restS_take (v := ?_) 4 rfl (by kernel_rfl) (by kernel_rfl) (by kernel_rfl) (fun _ _ _ h => h) (by rfl) ?_ ?_
      rotate_left
      · intro w9 h9; try dsimp only at h9
        go_split_ands
        go_simp; try with_reducible rfl
      try simp only [Act.put, List.setIfInBounds_toArray, List.set_cons_zero, List.set_cons_succ]
      refine restS_take (v := ?_) 5 rfl (by kernel_rfl) (by kernel_rfl) (by kernel_rfl) (fun _ _ _ h => h) (by rfl) ?_ ?_
      rotate_left
      · intro w9 h9; try dsimp only at h9
        go_split_ands
        go_simp; try with_reducible rfl
      try simp only [Act.put, List.setIfInBounds_toArray, List.set_cons_zero, List.set_cons_succ]
      refine restS_take (v := ?_) 6 rfl (by kernel_rfl) (by kernel_rfl) (by kernel_rfl) (fun _ _ _ h => h) (by rfl) ?_ ?_
      rotate_left
      · intro w9 h9; obtain ⟨h8, h9⟩ := h9; obtain ⟨x9, rfl⟩ := later_of h8; replace h9 := h9.2; clear h8
        go_simp; try with_reducible rfl
      try simp only [Act.put, List.setIfInBounds_toArray, List.set_cons_zero, List.set_cons_succ]
      refine restS_take (v := ?_) 7 rfl (by kernel_rfl) (by kernel_rfl) (by kernel_rfl) (fun _ _ _ h => h) (by rfl) ?_ ?_
      rotate_left
      · intro w9 h9; try dsimp only at h9
        go_split_ands
        go_simp; try with_reducible rfl
      try simp only [Act.put, List.setIfInBounds_toArray, List.set_cons_zero, List.set_cons_succ]
      refine restS_take (v := ?_) 8 rfl (by kernel_rfl) (by kernel_rfl) (by kernel_rfl) (fun _ _ _ h => h) (by rfl) ?_ ?_
      rotate_left
      · intro w9 h9; obtain ⟨h8, h9⟩ := h9; obtain ⟨x9, rfl⟩ := later_of h8; replace h9 := h9.2; clear h8
        go_simp; try with_reducible rfl
      try simp only [Act.put, List.setIfInBounds_toArray, List.set_cons_zero, List.set_cons_succ]
      refine restS_take (v := ?_) 9 rfl (by kernel_rfl) (by kernel_rfl) (by kernel_rfl) (fun _ _ _ h => h) (by rfl) ?_ ?_
      rotate_left
      · intro w9 h9; try dsimp only at h9
        go_split_ands
        go_simp; try with_reducible rfl
      try simp only [Act.put, List.setIfInBounds_toArray, List.set_cons_zero, List.set_cons_succ]
      refine restS_take (v := ?_) 10 rfl (by kernel_rfl) (by kernel_rfl) (by kernel_rfl) (fun _ _ _ h => h) (by rfl) ?_ ?_
      rotate_left
      · intro w9 h9; try dsimp only at h9
        go_split_ands
        go_simp; try with_reducible rfl
      try simp only [Act.put, List.setIfInBounds_toArray, List.set_cons_zero, List.set_cons_succ]
      refine restS_take (v := ?_) 11 rfl (by kernel_rfl) (by kernel_rfl) (by kernel_rfl) (fun _ _ _ h => h) (by rfl) ?_ ?_
      rotate_left
      · intro w9 h9; try dsimp only at h9
        go_split_ands
        go_simp; try with_reducible rfl
      try simp only [Act.put, List.setIfInBounds_toArray, List.set_cons_zero, List.set_cons_succ]
      refine restS_take (v := ?_) 12 rfl (by kernel_rfl) (by kernel_rfl) (by kernel_rfl) (fun _ _ _ h => h) (by rfl) ?_ ?_
      rotate_left
      · intro w9 h9; obtain ⟨h8, h9⟩ := h9; obtain ⟨x9, rfl⟩ := later_of h8; replace h9 := h9.2; clear h8
        go_simp; try with_reducible rfl
      try simp only [Act.put, List.setIfInBounds_toArray, List.set_cons_zero, List.set_cons_succ]
      refine restS_alone 13 rfl (by kernel_rfl) (by rfl) (fun hS K hK => ?_)
      go_wp2_with fail
      have hRd := (SB.lit hS 0 2 [l[k].1, l[k].2] (by simp) (by simp) Hnok.out).read
      simp only [World.size_drew] at hRd
      have hOw2 := hOw.below ((Below.refl _ _).alloc (Nat.le_refl _) (.cells (([l[k].1, l[k].2] : List Int).map (Value.int .i64)).toArray 2))
      have hSx := SB.alloc hS (.cells (([l[k].1, l[k].2] : List Int).map (Value.int .i64)).toArray 2)
      refine hK.out _ _ hSx ?_
      try simp only [Act.put, List.setIfInBounds_toArray, List.set_cons_zero, List.set_cons_succ]
      clear hK K hS hSx hOw
      refine restS_alone 14 rfl (by kernel_rfl) (by rfl) (fun hS K hK => ?_)
      have hlt2 := hOw2.2.2.lt
      refine wpo_append_ints _ _ _ (by rfl) (w.heap.size + 1) 2 i0 Try.underlying22 hi hz0 hz1 hz2 _ _ _ _ (accL [9, ji, jt, jh, je, ju] dueNums l k) [l[k].1, l[k].2] (by rfl) hOw2 (by rfl) hRd (by have h7 := Hlk.out; simp only [List.length_cons, List.length_nil]; omega) (by have h7 := hS.2.1; omega) (fun a5 c5 w5 ho5 hg5 => ?_)
      have hSx := SB.grown hS hg5 (fun k hk => Nat.le_trans (by simp) (hlt2 k hk).1) (fun e => by have h7 := (hlt2 _ e).1; omega)
      clear hlt2
      refine hK.out _ _ hSx ?_
      try simp only [Act.put, List.setIfInBounds_toArray, List.set_cons_zero, List.set_cons_succ]
      clear hK K hS hSx
      refine restS_take (v := ?_) 15 rfl (by kernel_rfl) (by kernel_rfl) (by kernel_rfl) (fun _ _ _ h => h) (by rfl) ?_ ?_
      rotate_left
      · intro w9 h9; try dsimp only at h9
        go_split_ands
        go_simp; try with_reducible rfl
      try simp only [Act.put, List.setIfInBounds_toArray, List.set_cons_zero, List.set_cons_succ]
      refine restS_done (by kernel_rfl) (fun hS => ?_)
      go_wp2_with fail
      go_roundw
      case rel => exact ⟨k + 1, a5, c5, by omega, by go_num, by rw [accL_succ _ _ _ hlt, List.length_append]; rfl, by rw [accL_succ _ _ _ hlt]; exact ho5, hS.2, hS.1⟩
      case measure => simp [intOf]; omega
    · obtain rfl : k = l.length := by omega
      have hcl := hBx.2
      go_wp2
      go_ret
      exact ⟨_, _, by rw [accL_all]; rfl, by have h9 := Hown.out.lower (lo' := w.heap.size) (by simp); rw [accL_all] at h9; exact h9, hbel⟩

end Go.Proofs.Ytpfkfppooeikeaa
