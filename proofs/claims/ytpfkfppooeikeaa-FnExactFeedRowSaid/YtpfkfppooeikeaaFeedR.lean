/- Walks of functions of the program, printed by a program of the prover. -/
import Derived.Test.YtpfkfppooeikeaaFeedF
import Derived.WalkKit
import Derived.WalkSpells
import Derived.Deep.QuietTactic
import Derived.BigQuiet
import Derived.Deep.Light
import Derived.Lib.Hide
import Derived.Deep.RegionHeld3
namespace Go.Proofs.Ytpfkfppooeikeaa
open Go.ChangeShapes Go.WideShapes Go.ChangeAt Go.RowKit Go.Deep
set_option maxHeartbeats 1600000
set_option maxRecDepth 100000

theorem c_spec_FeedRow (bs la : Int) (ao : Option Addr) (cap : Nat) (l : List (Int × Int × Int × Int × Int × Int × Int × Int × Int)) (w : World) (ybs : inI64 bs) (yla : inI64 la) (hl : ReadA entryE w ao l) : Calls Try.prog 92 #[.agg #[.int .i64 bs, .int .i64 la, .slice ao l.length cap]] w (RetI w 2 (rowFeed bs la l)) := by
  have hm := hl.2.1
  have Hl : Hid (∀ W, Below w.heap.size w W → ReadA entryE W ao l) := fun W hb => hl.below hb
  obtain ⟨i0, hi, hz0, hz1, hz2⟩ := info_parts info_int64
  cases hE : (feedOk bs la l)
  · rw [rowFeed_f hE]
    go_enter Try.func92, Try.ntmps92
    go_wp2_with (go_at_call 45; refine (c_spec_FeedOk _ _ _ _ _ _ (Hl.out _ (by (repeat (first | with_reducible exact Below.refl _ _ | ((with_reducible refine bl_alloc ?_ ?_); (focus (first | (simp; done) | (simp; omega) | omega))) | ((with_reducible refine bl_set ?_ ?_); (focus (first | (simp; done) | (simp; omega) | omega))) | ((with_reducible refine bl_later ?_ ?_); (focus (first | (simp; done) | (simp; omega) | omega))) | with_reducible refine bl_drew ?_ | with_reducible refine bl_drewN ?_ | ((with_reducible refine bl_step (by assumption) ?_ ?_); (focus (first | (simp; done) | (simp; omega) | omega)))))))).mono ?_; rintro e w1 ⟨rfl, hb1⟩; have hBx := (Bx.new w _ 44).below hb1; have hw1 : Below w.heap.size w w1 := bl_step hb1 (by simp) ((Below.refl _ w).alloc (Nat.le_refl _) _); have hsz1 := hb1.size; (try simp only [World.size_alloc] at hsz1); have hc := hBx.2; clear hb1)
    go_ret
    exact ⟨_, _, rfl, owns_empty w1 _ _ (by omega), by (repeat (first | with_reducible exact Below.refl _ _ | ((with_reducible refine bl_alloc ?_ ?_); (focus (first | (simp; done) | (simp; omega) | omega))) | ((with_reducible refine bl_set ?_ ?_); (focus (first | (simp; done) | (simp; omega) | omega))) | ((with_reducible refine bl_later ?_ ?_); (focus (first | (simp; done) | (simp; omega) | omega))) | with_reducible refine bl_drew ?_ | with_reducible refine bl_drewN ?_ | ((with_reducible refine bl_step (by assumption) ?_ ?_); (focus (first | (simp; done) | (simp; omega) | omega)))))⟩
  · rw [rowFeed_t hE]
    have hs : l.length ≤ 1000 := (by simp only [feedOk, Bool.and_eq_true, decide_eq_true_eq] at hE; have h7 := hE.2.2.1; omega)
    have Hlen : Hid (∀ k, k ≤ l.length → (accL [4, bs, la] entryNums l k).length = 3 + k * 9) := fun k hk => by rw [length_accL len_entryNums _ _ hk]; rfl
    have k9 : inI64 4 := by simp [inI64]
    have Hin : Hid (∀ x ∈ [4, bs, la], inI64 x) := by intro x hx; simp only [List.mem_cons, List.not_mem_nil, or_false] at hx; rcases hx with rfl | rfl | rfl <;> assumption
    have HEB : Hid (∀ k (hk : k < l.length), entryOk l[k].1 l[k].2.1 l[k].2.2.1 l[k].2.2.2.1 l[k].2.2.2.2.1 l[k].2.2.2.2.2.1 l[k].2.2.2.2.2.2.1 l[k].2.2.2.2.2.2.2.1 l[k].2.2.2.2.2.2.2.2 = true) := fun k hk => entAt_B hk (entsOk_at (by simp only [feedOk, Bool.and_eq_true] at hE; exact hE.2.2.2.1) hk)
    go_enter Try.func92, Try.ntmps92
    go_wp2_with (go_at_call 45; refine (c_spec_FeedOk _ _ _ _ _ _ (Hl.out _ (by (repeat (first | with_reducible exact Below.refl _ _ | ((with_reducible refine bl_alloc ?_ ?_); (focus (first | (simp; done) | (simp; omega) | omega))) | ((with_reducible refine bl_set ?_ ?_); (focus (first | (simp; done) | (simp; omega) | omega))) | ((with_reducible refine bl_later ?_ ?_); (focus (first | (simp; done) | (simp; omega) | omega))) | with_reducible refine bl_drew ?_ | with_reducible refine bl_drewN ?_ | ((with_reducible refine bl_step (by assumption) ?_ ?_); (focus (first | (simp; done) | (simp; omega) | omega)))))))).mono ?_; rintro e w1 ⟨rfl, hb1⟩; have hBx := (Bx.new w _ 44).below hb1; have hw1 : Below w.heap.size w w1 := bl_step hb1 (by simp) ((Below.refl _ w).alloc (Nat.le_refl _) _); have hsz1 := hb1.size; (try simp only [World.size_alloc] at hsz1); have hc := hBx.2; clear hb1)
    have hst := owns_lit w1 (w.heap.size + 1) 2 [4, bs, la] (by omega) (by simp) Hin.out
    have Hst := Lib.hid hst
    clear hst hc
    go_loopw [3, 4] (fun v i wr => ∃ (k : Nat) (ao' : Option Addr) (cap' : Nat), k ≤ l.length ∧ i = .int .i64 k ∧ v = .slice ao' (accL [4, bs, la] entryNums l k).length cap' ∧ Hid (IntsO wr (w.heap.size + 1) 2 (.slice ao' (accL [4, bs, la] entryNums l k).length cap') (accL [4, bs, la] entryNums l k)) ∧ Bx wr w.heap.size [.int .i64 bs, .int .i64 la, .slice ao l.length cap] ∧ Below w.heap.size w wr) (fun _ i _ => l.length - (intOf i).toNat)
    case atStart => exact ⟨0, _, _, Nat.zero_le _, rfl, by rw [accL_zero]; rfl, by rw [accL_zero]; exact Hst.out, hBx.alloc _, by (repeat (first | with_reducible exact Below.refl _ _ | ((with_reducible refine bl_alloc ?_ ?_); (focus (first | (simp; done) | (simp; omega) | omega))) | ((with_reducible refine bl_set ?_ ?_); (focus (first | (simp; done) | (simp; omega) | omega))) | ((with_reducible refine bl_later ?_ ?_); (focus (first | (simp; done) | (simp; omega) | omega))) | with_reducible refine bl_drew ?_ | with_reducible refine bl_drewN ?_ | ((with_reducible refine bl_step (by assumption) ?_ ?_); (focus (first | (simp; done) | (simp; omega) | omega)))))⟩
    case round =>
    obtain ⟨k, ao', cap', hk, rfl, rfl, Hown, hBx, hbel⟩ := hrel
    by_cases hlt : k < l.length
    · obtain ⟨b, off, rfl, hbl, hc⟩ := entry_at hl hlt
      have hbw := Nat.lt_of_lt_of_le hbl hbel.size
      have ck0 : _ := (hbel.cell (p := ⟨b, off + k * 9, none⟩) hbl).trans (hc k hlt).1
      have ck1 : _ := (hbel.cell (p := ⟨b, off + k * 9 + 1, none⟩) hbl).trans (hc k hlt).2.1
      have ck2 : _ := (hbel.cell (p := ⟨b, off + k * 9 + 2, none⟩) hbl).trans (hc k hlt).2.2.1
      have ck3 : _ := (hbel.cell (p := ⟨b, off + k * 9 + 3, none⟩) hbl).trans (hc k hlt).2.2.2.1
      have ck4 : _ := (hbel.cell (p := ⟨b, off + k * 9 + 4, none⟩) hbl).trans (hc k hlt).2.2.2.2.1
      have ck5 : _ := (hbel.cell (p := ⟨b, off + k * 9 + 5, none⟩) hbl).trans (hc k hlt).2.2.2.2.2.1
      have ck6 : _ := (hbel.cell (p := ⟨b, off + k * 9 + 6, none⟩) hbl).trans (hc k hlt).2.2.2.2.2.2.1
      have ck7 : _ := (hbel.cell (p := ⟨b, off + k * 9 + 7, none⟩) hbl).trans (hc k hlt).2.2.2.2.2.2.2.1
      have ck8 : _ := (hbel.cell (p := ⟨b, off + k * 9 + 8, none⟩) hbl).trans (hc k hlt).2.2.2.2.2.2.2.2
      clear hc
      have hsz := hbel.size
      have hlk := Hlen.out k hk
      have hlo := Hown.out.2.2.1
      have Hok : Hid (inI64 l[k].1 ∧ inI64 l[k].2.1 ∧ inI64 l[k].2.2.1 ∧ inI64 l[k].2.2.2.1 ∧ inI64 l[k].2.2.2.2.1 ∧ inI64 l[k].2.2.2.2.2.1 ∧ inI64 l[k].2.2.2.2.2.2.1 ∧ inI64 l[k].2.2.2.2.2.2.2.1 ∧ inI64 l[k].2.2.2.2.2.2.2.2) := hl.1 _ (List.getElem_mem hlt)
      have Hnok : Hid (∀ x ∈ entryNums l[k], inI64 x) := entryNums_ok (hl.1 _ (List.getElem_mem hlt))
      have hp : (k : Int) < l.length := by omega
      have hBlt := hBx.1
      have Hlk := Lib.hid hlk
      clear hlk
      have hcl := hBx.2
      have hBx0 := hBx
      have hcell := hBx.2
      have hEk : entryOk l[k].1 l[k].2.1 l[k].2.2.1 l[k].2.2.2.1 l[k].2.2.2.2.1 l[k].2.2.2.2.2.1 l[k].2.2.2.2.2.2.1 l[k].2.2.2.2.2.2.2.1 l[k].2.2.2.2.2.2.2.2 = true := HEB.out k hlt
      go_wp2_with (first | (at_builtin; refine wpList_append_ints rfl _ _ _ rfl (w.heap.size + 1) 2 i0 Try.underlying22 hi hz0 hz1 hz2 _ _ _ _ (accL [4, bs, la] entryNums l k) [l[k].1, l[k].2.1, l[k].2.2.1, l[k].2.2.2.1, l[k].2.2.2.2.1, l[k].2.2.2.2.2.1, l[k].2.2.2.2.2.2.1, l[k].2.2.2.2.2.2.2.1, l[k].2.2.2.2.2.2.2.2] rfl (Hown.out.below hb4) rfl ho4.read (by have h7 := Hlk.out; simp only [List.length_cons, List.length_nil]; omega) (by omega) (fun a5 c5 w5 ho5 hg5 => ?_)) | (go_at_call 145; refine (c_spec_EntryRow _ _ _ _ _ _ _ _ _ _ Hok.out.1 Hok.out.2.1 Hok.out.2.2.1 Hok.out.2.2.2.1 Hok.out.2.2.2.2.1 Hok.out.2.2.2.2.2.1 Hok.out.2.2.2.2.2.2.1 Hok.out.2.2.2.2.2.2.2.1 Hok.out.2.2.2.2.2.2.2.2 hEk).mono ?_; rintro e w4 ⟨a4, c4, rfl, ho4, hb4⟩; have hz4 := hb4.size; have hlt2 := Hown.out.2.2.lt))
      go_roundw
      case rel => exact ⟨k + 1, a5, c5, by omega, by go_num, by rw [accL_succ _ _ _ hlt, List.length_append]; rfl, by rw [accL_succ _ _ _ hlt]; exact ho5, (hBx0.below hb4).grown hg5 (fun e => by have h7 := (hlt2 _ e).1; omega), bl_grown hg5 (by omega) (fun k hk => Nat.le_trans (by simp) (hlt2 k hk).1) (bl_step hb4 hbel.size hbel)⟩
      case measure => simp [intOf]; omega
    · obtain rfl : k = l.length := by omega
      have hcl := hBx.2
      go_wp2
      go_ret
      exact ⟨_, _, by rw [accL_all]; rfl, by have h9 := Hown.out.lower (lo' := w.heap.size) (by simp); rw [accL_all] at h9; exact h9, hbel⟩

end Go.Proofs.Ytpfkfppooeikeaa
