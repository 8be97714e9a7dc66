/- Walks of functions of the program, printed by a program of the prover. -/
import Derived.Test.YtpfkfppooeikeaaEntsA
import Derived.WalkKit
import Derived.WalkSpells
import Derived.Deep.QuietTactic
import Derived.BigQuiet
import Derived.Deep.Light
import Derived.Lib.Hide
import Derived.Deep.RegionHeld3
namespace Go.Proofs.Ytpfkfppooeikeaa
open Go.ChangeShapes Go.WideShapes Go.ChangeAt Go.RowKit Go.Deep
set_option maxHeartbeats 1600000
set_option maxRecDepth 100000
theorem c_impl_EntriesOk (ao : Option Addr) (cap : Nat) (l : List (Int × Int × Int × Int × Int × Int × Int × Int × Int)) (w : World) (h : ReadA entryE w ao l) :
    Calls Try.prog 111 #[.slice ao l.length cap] w fun e w' => e = .returned (.bool (entsOk l)) ∧ Below w.heap.size w w' := by
  have hm := h.2.1
  by_cases hlen : 2000 < l.length
  · have Hr := Lib.hid (entsOk_long hlen)
    go_enter Try.func111, Try.ntmps111
    go_wp2
    go_ret
    exact ⟨by rw [Hr.out]; rfl, Below.refl _ _⟩
  · have hl2 : l.length ≤ 2000 := by omega
    go_enter Try.func111, Try.ntmps111
    go_wp2
    go_loopw [10] (fun i wr => ∃ k : Nat, k ≤ l.length ∧ i = .int .i64 k ∧ Hid (∀ i, i < k → entAt l i = true) ∧ Below w.heap.size w wr) (fun i _ => l.length - (intOf i).toNat)
    case atStart => exact ⟨0, Nat.zero_le _, rfl, fun i hi => by omega, Below.refl _ _⟩
    case round =>
      obtain ⟨k, hk, rfl, Hall, hbel⟩ := hrel
      by_cases hlt : k < l.length
      · obtain ⟨b, off, rfl, hbl, hc⟩ := entry_at h hlt
        have hbw := Nat.lt_of_lt_of_le hbl hbel.size
        have hbw1 : b < wr.heap.size + 1 := by omega
        have hsz := hbel.size
        by_cases hk0 : k = 0
        · have Hk0 := Lib.hid hk0
          have hk1 : k ≤ 0 := by omega
          clear hk0
          have ck0 : _ := (hbel.cell (p := ⟨b, off + k * 9, none⟩) hbl).trans (hc k hlt).1
          have ck1 : _ := (hbel.cell (p := ⟨b, off + k * 9 + 1, none⟩) hbl).trans (hc k hlt).2.1
          have ck2 : _ := (hbel.cell (p := ⟨b, off + k * 9 + 2, none⟩) hbl).trans (hc k hlt).2.2.1
          have ck3 : _ := (hbel.cell (p := ⟨b, off + k * 9 + 3, none⟩) hbl).trans (hc k hlt).2.2.2.1
          have ck4 : _ := (hbel.cell (p := ⟨b, off + k * 9 + 4, none⟩) hbl).trans (hc k hlt).2.2.2.2.1
          have ck5 : _ := (hbel.cell (p := ⟨b, off + k * 9 + 5, none⟩) hbl).trans (hc k hlt).2.2.2.2.2.1
          have ck6 : _ := (hbel.cell (p := ⟨b, off + k * 9 + 6, none⟩) hbl).trans (hc k hlt).2.2.2.2.2.2.1
          have ck7 : _ := (hbel.cell (p := ⟨b, off + k * 9 + 7, none⟩) hbl).trans (hc k hlt).2.2.2.2.2.2.2.1
          have ck8 : _ := (hbel.cell (p := ⟨b, off + k * 9 + 8, none⟩) hbl).trans (hc k hlt).2.2.2.2.2.2.2.2
          clear hc
          have hd0 : decide (0 < k) = false := by simp; omega
          have hd2 : decide ((0 : Int) < (k : Int)) = false := by simp; omega
          have hp : (k : Int) < l.length := by omega
          have He : Hid (entAt l k = entryOk l[k].1 l[k].2.1 l[k].2.2.1 l[k].2.2.2.1 l[k].2.2.2.2.1 l[k].2.2.2.2.2.1 l[k].2.2.2.2.2.2.1 l[k].2.2.2.2.2.2.2.1 l[k].2.2.2.2.2.2.2.2) := by
            rw [entAt_eq hlt]
            obtain rfl : k = 0 := Hk0.out
            exact entOk1_zero l l[0]
          cases hE : entryOk l[k].1 l[k].2.1 l[k].2.2.1 l[k].2.2.2.1 l[k].2.2.2.2.1 l[k].2.2.2.2.2.1 l[k].2.2.2.2.2.2.1 l[k].2.2.2.2.2.2.2.1 l[k].2.2.2.2.2.2.2.2
          · have HF : Hid (entAt l k = false) := He.out.trans hE
            go_wp2_with fail
            refine wp_region_later (by kernel_rfl) (by kernel_rfl) ?_
            repeat (first | go_big_quiet_step ((go_at_call 156; exact later_call (c_impl_EntryOk _ _ _ _ _ _ _ _ _ _))) | quiet_step ((go_at_call 156; exact later_call (c_impl_EntryOk _ _ _ _ _ _ _ _ _ _))))
            refine wpQuiet_nil ?_
            intro _ hw'
            obtain ⟨x, hw''⟩ := hw'
            subst hw''
            go_wp2_with fail
            go_ret
            exact ⟨by rw [entsOk_bad hlt HF.out]; rfl, by (repeat (first | with_reducible exact Below.refl _ _ | ((with_reducible refine bl_alloc ?_ ?_); (focus (first | (simp; done) | (simp; omega) | omega))) | ((with_reducible refine bl_set ?_ ?_); (focus (first | (simp; done) | (simp; omega) | omega))) | ((with_reducible refine bl_later ?_ ?_); (focus (first | (simp; done) | (simp; omega) | omega))) | with_reducible refine bl_drew ?_ | with_reducible refine bl_drewN ?_ | ((with_reducible refine bl_step (by assumption) ?_ ?_); (focus (first | (simp; done) | (simp; omega) | omega)))))⟩
          · have HT : Hid (entAt l k = true) := He.out.trans hE
            go_wp2_with fail
            refine wp_region_later (by kernel_rfl) (by kernel_rfl) ?_
            repeat (first | go_big_quiet_step ((go_at_call 156; exact later_call (c_impl_EntryOk _ _ _ _ _ _ _ _ _ _))) | quiet_step ((go_at_call 156; exact later_call (c_impl_EntryOk _ _ _ _ _ _ _ _ _ _))))
            refine wpQuiet_nil ?_
            intro _ hw'
            obtain ⟨x, hw''⟩ := hw'
            subst hw''
            have hbx : Below w.heap.size w x.w := by (repeat (first | with_reducible exact Below.refl _ _ | ((with_reducible refine bl_alloc ?_ ?_); (focus (first | (simp; done) | (simp; omega) | omega))) | ((with_reducible refine bl_set ?_ ?_); (focus (first | (simp; done) | (simp; omega) | omega))) | ((with_reducible refine bl_later ?_ ?_); (focus (first | (simp; done) | (simp; omega) | omega))) | with_reducible refine bl_drew ?_ | with_reducible refine bl_drewN ?_ | ((with_reducible refine bl_step (by assumption) ?_ ?_); (focus (first | (simp; done) | (simp; omega) | omega)))))
            go_wp2_with fail
            go_roundw
            case rel => exact ⟨k + 1, by omega, by go_num, fun i hi => by
              by_cases he : i = k
              · subst he; exact HT.out
              · exact Hall.out i (by omega), hbx⟩
            case measure => simp [intOf]; omega
        · obtain ⟨j, rfl⟩ : ∃ j, k = j + 1 := ⟨k - 1, by omega⟩
          clear hk0
          have hlt' : j < l.length := by omega
          have hib := entB_idx (entAt_B hlt' (Hall.out j (by omega)))
          obtain ⟨hi1, hi2⟩ := hib
          have ck0 : _ := (hbel.cell (p := ⟨b, off + (j + 1) * 9, none⟩) hbl).trans (hc (j + 1) hlt).1
          have ck1 : _ := (hbel.cell (p := ⟨b, off + (j + 1) * 9 + 1, none⟩) hbl).trans (hc (j + 1) hlt).2.1
          have ck2 : _ := (hbel.cell (p := ⟨b, off + (j + 1) * 9 + 2, none⟩) hbl).trans (hc (j + 1) hlt).2.2.1
          have ck3 : _ := (hbel.cell (p := ⟨b, off + (j + 1) * 9 + 3, none⟩) hbl).trans (hc (j + 1) hlt).2.2.2.1
          have ck4 : _ := (hbel.cell (p := ⟨b, off + (j + 1) * 9 + 4, none⟩) hbl).trans (hc (j + 1) hlt).2.2.2.2.1
          have ck5 : _ := (hbel.cell (p := ⟨b, off + (j + 1) * 9 + 5, none⟩) hbl).trans (hc (j + 1) hlt).2.2.2.2.2.1
          have ck6 : _ := (hbel.cell (p := ⟨b, off + (j + 1) * 9 + 6, none⟩) hbl).trans (hc (j + 1) hlt).2.2.2.2.2.2.1
          have ck7 : _ := (hbel.cell (p := ⟨b, off + (j + 1) * 9 + 7, none⟩) hbl).trans (hc (j + 1) hlt).2.2.2.2.2.2.2.1
          have ck8 : _ := (hbel.cell (p := ⟨b, off + (j + 1) * 9 + 8, none⟩) hbl).trans (hc (j + 1) hlt).2.2.2.2.2.2.2.2
          have cp0 : _ := (hbel.cell (p := ⟨b, off + j * 9, none⟩) hbl).trans (hc j hlt').1
          have cp1 : _ := (hbel.cell (p := ⟨b, off + j * 9 + 1, none⟩) hbl).trans (hc j hlt').2.1
          clear hc
          have hp : ((j + 1 : Nat) : Int) < l.length := by omega
          have hp2 : (j : Int) + 1 < l.length := by omega
          have hal : ((j + 1 : Nat) : Int) ≤ 2000 := by omega
          have He : Hid (entAt l (j + 1) = (entryOk l[j + 1].1 l[j + 1].2.1 l[j + 1].2.2.1 l[j + 1].2.2.2.1 l[j + 1].2.2.2.2.1 l[j + 1].2.2.2.2.2.1 l[j + 1].2.2.2.2.2.2.1 l[j + 1].2.2.2.2.2.2.2.1 l[j + 1].2.2.2.2.2.2.2.2 && ((l[j + 1].1 == l[j].1 + 1) && decide (l[j].2.1 ≤ l[j + 1].2.1)))) := by
            rw [entAt_eq hlt]
            exact entOk1_succ hlt' l[j + 1]
          cases hE : entryOk l[j + 1].1 l[j + 1].2.1 l[j + 1].2.2.1 l[j + 1].2.2.2.1 l[j + 1].2.2.2.2.1 l[j + 1].2.2.2.2.2.1 l[j + 1].2.2.2.2.2.2.1 l[j + 1].2.2.2.2.2.2.2.1 l[j + 1].2.2.2.2.2.2.2.2
          · have HF : Hid (entAt l (j + 1) = false) := by rw [Hid, He.out, hE]; rfl
            go_wp2_with fail
            refine wp_region_later (by kernel_rfl) (by kernel_rfl) ?_
            repeat (first | go_big_quiet_step ((go_at_call 156; exact later_call (c_impl_EntryOk _ _ _ _ _ _ _ _ _ _))) | quiet_step ((go_at_call 156; exact later_call (c_impl_EntryOk _ _ _ _ _ _ _ _ _ _))))
            refine wpQuiet_nil ?_
            intro _ hw'
            obtain ⟨x, hw''⟩ := hw'
            subst hw''
            go_wp2_with fail
            go_ret
            exact ⟨by rw [entsOk_bad hlt HF.out]; rfl, by (repeat (first | with_reducible exact Below.refl _ _ | ((with_reducible refine bl_alloc ?_ ?_); (focus (first | (simp; done) | (simp; omega) | omega))) | ((with_reducible refine bl_set ?_ ?_); (focus (first | (simp; done) | (simp; omega) | omega))) | ((with_reducible refine bl_later ?_ ?_); (focus (first | (simp; done) | (simp; omega) | omega))) | with_reducible refine bl_drew ?_ | with_reducible refine bl_drewN ?_ | ((with_reducible refine bl_step (by assumption) ?_ ?_); (focus (first | (simp; done) | (simp; omega) | omega)))))⟩
          · cases h1 : (l[j + 1].1 != l[j].1 + 1)
            · cases h2 : decide (l[j + 1].2.1 < l[j].2.1)
              · have HT : Hid (entAt l (j + 1) = true) := by
                  rw [Hid, He.out, hE]
                  simp only [bne_eq_false_iff_eq] at h1
                  simp only [decide_eq_false_iff_not] at h2
                  simp [h1]; omega
                go_wp2_with fail
                refine wp_region_later (by kernel_rfl) (by kernel_rfl) ?_
                repeat (first | go_big_quiet_step ((go_at_call 156; exact later_call (c_impl_EntryOk _ _ _ _ _ _ _ _ _ _))) | quiet_step ((go_at_call 156; exact later_call (c_impl_EntryOk _ _ _ _ _ _ _ _ _ _))))
                refine wpQuiet_nil ?_
                intro _ hw'
                obtain ⟨x, hw''⟩ := hw'
                subst hw''
                have hbx : Below w.heap.size w x.w := by (repeat (first | with_reducible exact Below.refl _ _ | ((with_reducible refine bl_alloc ?_ ?_); (focus (first | (simp; done) | (simp; omega) | omega))) | ((with_reducible refine bl_set ?_ ?_); (focus (first | (simp; done) | (simp; omega) | omega))) | ((with_reducible refine bl_later ?_ ?_); (focus (first | (simp; done) | (simp; omega) | omega))) | with_reducible refine bl_drew ?_ | with_reducible refine bl_drewN ?_ | ((with_reducible refine bl_step (by assumption) ?_ ?_); (focus (first | (simp; done) | (simp; omega) | omega)))))
                go_wp2_with fail
                go_roundw
                case rel => exact ⟨j + 1 + 1, by omega, by go_num, fun i hi => by
                  by_cases he : i = j + 1
                  · subst he; exact HT.out
                  · exact Hall.out i (by omega), hbx⟩
                case measure => simp [intOf]; omega
              · have HF : Hid (entAt l (j + 1) = false) := by
                  rw [Hid, He.out, hE]
                  simp only [decide_eq_true_eq] at h2
                  simp; omega
                go_wp2_with fail
                refine wp_region_later (by kernel_rfl) (by kernel_rfl) ?_
                repeat (first | go_big_quiet_step ((go_at_call 156; exact later_call (c_impl_EntryOk _ _ _ _ _ _ _ _ _ _))) | quiet_step ((go_at_call 156; exact later_call (c_impl_EntryOk _ _ _ _ _ _ _ _ _ _))))
                refine wpQuiet_nil ?_
                intro _ hw'
                obtain ⟨x, hw''⟩ := hw'
                subst hw''
                go_wp2_with fail
                go_ret
                exact ⟨by rw [entsOk_bad hlt HF.out]; rfl, by (repeat (first | with_reducible exact Below.refl _ _ | ((with_reducible refine bl_alloc ?_ ?_); (focus (first | (simp; done) | (simp; omega) | omega))) | ((with_reducible refine bl_set ?_ ?_); (focus (first | (simp; done) | (simp; omega) | omega))) | ((with_reducible refine bl_later ?_ ?_); (focus (first | (simp; done) | (simp; omega) | omega))) | with_reducible refine bl_drew ?_ | with_reducible refine bl_drewN ?_ | ((with_reducible refine bl_step (by assumption) ?_ ?_); (focus (first | (simp; done) | (simp; omega) | omega)))))⟩
            · have HF : Hid (entAt l (j + 1) = false) := by
                rw [Hid, He.out, hE]
                have h3 : ¬ l[j + 1].1 = l[j].1 + 1 := by simpa using h1
                simp [h3]
              go_wp2_with fail
              refine wp_region_later (by kernel_rfl) (by kernel_rfl) ?_
              repeat (first | go_big_quiet_step ((go_at_call 156; exact later_call (c_impl_EntryOk _ _ _ _ _ _ _ _ _ _))) | quiet_step ((go_at_call 156; exact later_call (c_impl_EntryOk _ _ _ _ _ _ _ _ _ _))))
              refine wpQuiet_nil ?_
              intro _ hw'
              obtain ⟨x, hw''⟩ := hw'
              subst hw''
              go_wp2_with fail
              go_ret
              exact ⟨by rw [entsOk_bad hlt HF.out]; rfl, by (repeat (first | with_reducible exact Below.refl _ _ | ((with_reducible refine bl_alloc ?_ ?_); (focus (first | (simp; done) | (simp; omega) | omega))) | ((with_reducible refine bl_set ?_ ?_); (focus (first | (simp; done) | (simp; omega) | omega))) | ((with_reducible refine bl_later ?_ ?_); (focus (first | (simp; done) | (simp; omega) | omega))) | with_reducible refine bl_drew ?_ | with_reducible refine bl_drewN ?_ | ((with_reducible refine bl_step (by assumption) ?_ ?_); (focus (first | (simp; done) | (simp; omega) | omega)))))⟩
      · go_wp2
        go_ret
        exact ⟨by rw [entsOk_good hl2 fun i hi => Hall.out i (by omega)]; rfl, hbel⟩

end Go.Proofs.Ytpfkfppooeikeaa
