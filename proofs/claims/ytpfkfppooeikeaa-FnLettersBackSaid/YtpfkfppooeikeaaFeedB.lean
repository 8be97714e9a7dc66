/- Walks of functions of the program, printed by a program of the prover. -/
import Derived.Test.YtpfkfppooeikeaaEntsB
import Derived.Test.YtpfkfppooeikeaaFeedA
import Derived.WalkKit
import Derived.WalkSpells
import Derived.Deep.QuietTactic
import Derived.BigQuiet
import Derived.Deep.Light
import Derived.Lib.Hide
import Derived.Deep.RegionHeld3
namespace Go.Proofs.Ytpfkfppooeikeaa
open Go.ChangeShapes Go.WideShapes Go.ChangeAt Go.RowKit Go.Deep
set_option maxHeartbeats 1600000
set_option maxRecDepth 100000
theorem c_impl_FeedOk (bs la : Int) (ao : Option Addr) (cap : Nat) (l : List (Int × Int × Int × Int × Int × Int × Int × Int × Int)) (w : World) (hl : ReadA entryE w ao l) :
    Calls Try.prog 47 #[.agg #[.int .i64 bs, .int .i64 la, .slice ao l.length cap]] w fun e w' => e = .returned (.bool (feedOk bs la l)) ∧ Below w.heap.size w w' := by
  have hm := hl.2.1
  have Hl : Hid (∀ W, Below w.heap.size w W → ReadA entryE W ao l) := fun W hb => hl.below hb
  cases h2 : inB bs 0 la
  · skip
    have Hr := Lib.hid (feedOk_f2 (bs := bs) (la := la) (l := l) h2)
    go_enter Try.func47, Try.ntmps47
    go_wp2_with (first | (go_at_call 110; refine (c_impl_between _ _ _ _).mono ?_; rintro e w' ⟨rfl, rfl⟩) | (go_at_call 111; refine (c_impl_EntriesOk _ _ _ _ (Hl.out _ (by (repeat (first | with_reducible exact Below.refl _ _ | ((with_reducible refine bl_alloc ?_ ?_); (focus (first | (simp; done) | (simp; omega) | omega))) | ((with_reducible refine bl_set ?_ ?_); (focus (first | (simp; done) | (simp; omega) | omega))) | ((with_reducible refine bl_later ?_ ?_); (focus (first | (simp; done) | (simp; omega) | omega))) | with_reducible refine bl_drew ?_ | with_reducible refine bl_drewN ?_ | ((with_reducible refine bl_step (by assumption) ?_ ?_); (focus (first | (simp; done) | (simp; omega) | omega)))))))).mono ?_; rintro e w1 ⟨rfl, hb1⟩; have hBx := (Bx.new w _ 44).below hb1; have hw1 : Below w.heap.size w w1 := bl_step hb1 (by simp) ((Below.refl _ w).alloc (Nat.le_refl _) _); have hsz := hb1.size; (try simp only [World.size_alloc] at hsz); have hc := hBx.2; clear hb1))
    go_ret
    exact ⟨by rw [Hr.out]; rfl, by (repeat (first | with_reducible exact Below.refl _ _ | ((with_reducible refine bl_alloc ?_ ?_); (focus (first | (simp; done) | (simp; omega) | omega))) | ((with_reducible refine bl_set ?_ ?_); (focus (first | (simp; done) | (simp; omega) | omega))) | ((with_reducible refine bl_later ?_ ?_); (focus (first | (simp; done) | (simp; omega) | omega))) | with_reducible refine bl_drew ?_ | with_reducible refine bl_drewN ?_ | ((with_reducible refine bl_step (by assumption) ?_ ?_); (focus (first | (simp; done) | (simp; omega) | omega)))))⟩
  by_cases h1 : 2000 < la
  · skip
    have Hr := Lib.hid (feedOk_f5 (bs := bs) (la := la) (l := l) h1)
    go_enter Try.func47, Try.ntmps47
    go_wp2_with (first | (go_at_call 110; refine (c_impl_between _ _ _ _).mono ?_; rintro e w' ⟨rfl, rfl⟩) | (go_at_call 111; refine (c_impl_EntriesOk _ _ _ _ (Hl.out _ (by (repeat (first | with_reducible exact Below.refl _ _ | ((with_reducible refine bl_alloc ?_ ?_); (focus (first | (simp; done) | (simp; omega) | omega))) | ((with_reducible refine bl_set ?_ ?_); (focus (first | (simp; done) | (simp; omega) | omega))) | ((with_reducible refine bl_later ?_ ?_); (focus (first | (simp; done) | (simp; omega) | omega))) | with_reducible refine bl_drew ?_ | with_reducible refine bl_drewN ?_ | ((with_reducible refine bl_step (by assumption) ?_ ?_); (focus (first | (simp; done) | (simp; omega) | omega)))))))).mono ?_; rintro e w1 ⟨rfl, hb1⟩; have hBx := (Bx.new w _ 44).below hb1; have hw1 : Below w.heap.size w w1 := bl_step hb1 (by simp) ((Below.refl _ w).alloc (Nat.le_refl _) _); have hsz := hb1.size; (try simp only [World.size_alloc] at hsz); have hc := hBx.2; clear hb1))
    go_ret
    exact ⟨by rw [Hr.out]; rfl, by (repeat (first | with_reducible exact Below.refl _ _ | ((with_reducible refine bl_alloc ?_ ?_); (focus (first | (simp; done) | (simp; omega) | omega))) | ((with_reducible refine bl_set ?_ ?_); (focus (first | (simp; done) | (simp; omega) | omega))) | ((with_reducible refine bl_later ?_ ?_); (focus (first | (simp; done) | (simp; omega) | omega))) | with_reducible refine bl_drew ?_ | with_reducible refine bl_drewN ?_ | ((with_reducible refine bl_step (by assumption) ?_ ?_); (focus (first | (simp; done) | (simp; omega) | omega)))))⟩
  by_cases h3 : 3 < l.length
  · skip
    have Hr := Lib.hid (feedOk_f3 (bs := bs) (la := la) (l := l) h3)
    go_enter Try.func47, Try.ntmps47
    go_wp2_with (first | (go_at_call 110; refine (c_impl_between _ _ _ _).mono ?_; rintro e w' ⟨rfl, rfl⟩) | (go_at_call 111; refine (c_impl_EntriesOk _ _ _ _ (Hl.out _ (by (repeat (first | with_reducible exact Below.refl _ _ | ((with_reducible refine bl_alloc ?_ ?_); (focus (first | (simp; done) | (simp; omega) | omega))) | ((with_reducible refine bl_set ?_ ?_); (focus (first | (simp; done) | (simp; omega) | omega))) | ((with_reducible refine bl_later ?_ ?_); (focus (first | (simp; done) | (simp; omega) | omega))) | with_reducible refine bl_drew ?_ | with_reducible refine bl_drewN ?_ | ((with_reducible refine bl_step (by assumption) ?_ ?_); (focus (first | (simp; done) | (simp; omega) | omega)))))))).mono ?_; rintro e w1 ⟨rfl, hb1⟩; have hBx := (Bx.new w _ 44).below hb1; have hw1 : Below w.heap.size w w1 := bl_step hb1 (by simp) ((Below.refl _ w).alloc (Nat.le_refl _) _); have hsz := hb1.size; (try simp only [World.size_alloc] at hsz); have hc := hBx.2; clear hb1))
    go_ret
    exact ⟨by rw [Hr.out]; rfl, by (repeat (first | with_reducible exact Below.refl _ _ | ((with_reducible refine bl_alloc ?_ ?_); (focus (first | (simp; done) | (simp; omega) | omega))) | ((with_reducible refine bl_set ?_ ?_); (focus (first | (simp; done) | (simp; omega) | omega))) | ((with_reducible refine bl_later ?_ ?_); (focus (first | (simp; done) | (simp; omega) | omega))) | with_reducible refine bl_drew ?_ | with_reducible refine bl_drewN ?_ | ((with_reducible refine bl_step (by assumption) ?_ ?_); (focus (first | (simp; done) | (simp; omega) | omega)))))⟩
  cases h4 : entsOk l
  · skip
    have Hr := Lib.hid (feedOk_f4 (bs := bs) (la := la) (l := l) h4)
    go_enter Try.func47, Try.ntmps47
    go_wp2_with (first | (go_at_call 110; refine (c_impl_between _ _ _ _).mono ?_; rintro e w' ⟨rfl, rfl⟩) | (go_at_call 111; refine (c_impl_EntriesOk _ _ _ _ (Hl.out _ (by (repeat (first | with_reducible exact Below.refl _ _ | ((with_reducible refine bl_alloc ?_ ?_); (focus (first | (simp; done) | (simp; omega) | omega))) | ((with_reducible refine bl_set ?_ ?_); (focus (first | (simp; done) | (simp; omega) | omega))) | ((with_reducible refine bl_later ?_ ?_); (focus (first | (simp; done) | (simp; omega) | omega))) | with_reducible refine bl_drew ?_ | with_reducible refine bl_drewN ?_ | ((with_reducible refine bl_step (by assumption) ?_ ?_); (focus (first | (simp; done) | (simp; omega) | omega)))))))).mono ?_; rintro e w1 ⟨rfl, hb1⟩; have hBx := (Bx.new w _ 44).below hb1; have hw1 : Below w.heap.size w w1 := bl_step hb1 (by simp) ((Below.refl _ w).alloc (Nat.le_refl _) _); have hsz := hb1.size; (try simp only [World.size_alloc] at hsz); have hc := hBx.2; clear hb1))
    go_ret
    exact ⟨by rw [Hr.out]; rfl, by (repeat (first | with_reducible exact Below.refl _ _ | ((with_reducible refine bl_alloc ?_ ?_); (focus (first | (simp; done) | (simp; omega) | omega))) | ((with_reducible refine bl_set ?_ ?_); (focus (first | (simp; done) | (simp; omega) | omega))) | ((with_reducible refine bl_later ?_ ?_); (focus (first | (simp; done) | (simp; omega) | omega))) | with_reducible refine bl_drew ?_ | with_reducible refine bl_drewN ?_ | ((with_reducible refine bl_step (by assumption) ?_ ?_); (focus (first | (simp; done) | (simp; omega) | omega)))))⟩
  have h5 : l.length ≤ 3 := by omega
  have h6 : la ≤ 2000 := by omega
  go_enter Try.func47, Try.ntmps47
  go_wp2_with (first | (go_at_call 110; refine (c_impl_between _ _ _ _).mono ?_; rintro e w' ⟨rfl, rfl⟩) | (go_at_call 111; refine (c_impl_EntriesOk _ _ _ _ (Hl.out _ (by (repeat (first | with_reducible exact Below.refl _ _ | ((with_reducible refine bl_alloc ?_ ?_); (focus (first | (simp; done) | (simp; omega) | omega))) | ((with_reducible refine bl_set ?_ ?_); (focus (first | (simp; done) | (simp; omega) | omega))) | ((with_reducible refine bl_later ?_ ?_); (focus (first | (simp; done) | (simp; omega) | omega))) | with_reducible refine bl_drew ?_ | with_reducible refine bl_drewN ?_ | ((with_reducible refine bl_step (by assumption) ?_ ?_); (focus (first | (simp; done) | (simp; omega) | omega)))))))).mono ?_; rintro e w1 ⟨rfl, hb1⟩; have hBx := (Bx.new w _ 44).below hb1; have hw1 : Below w.heap.size w w1 := bl_step hb1 (by simp) ((Below.refl _ w).alloc (Nat.le_refl _) _); have hsz := hb1.size; (try simp only [World.size_alloc] at hsz); have hc := hBx.2; clear hb1))
  clear hc
  go_loopw [31] (fun i wr => ∃ k : Nat, k ≤ l.length ∧ i = .int .i64 k ∧ Hid (∀ q (hq : q < l.length), q < k → feedIn bs la l[q] = true) ∧ Bx wr w.heap.size [.int .i64 bs, .int .i64 la, .slice ao l.length cap] ∧ Below w.heap.size w wr) (fun i _ => l.length - (intOf i).toNat)
  case atStart => exact ⟨0, Nat.zero_le _, rfl, fun i hi h => by omega, hBx, by (repeat (first | with_reducible exact Below.refl _ _ | ((with_reducible refine bl_alloc ?_ ?_); (focus (first | (simp; done) | (simp; omega) | omega))) | ((with_reducible refine bl_set ?_ ?_); (focus (first | (simp; done) | (simp; omega) | omega))) | ((with_reducible refine bl_later ?_ ?_); (focus (first | (simp; done) | (simp; omega) | omega))) | with_reducible refine bl_drew ?_ | with_reducible refine bl_drewN ?_ | ((with_reducible refine bl_step (by assumption) ?_ ?_); (focus (first | (simp; done) | (simp; omega) | omega)))))⟩
  case round =>
    obtain ⟨k, hk, rfl, Hall, hBx, hbel⟩ := hrel
    have hBlt := hBx.1
    have hBc := hBx.2
    have hBlt1 : w.heap.size < wr.heap.size + 1 := by omega
    by_cases hlt : k < l.length
    · obtain ⟨b, off, rfl, hbl, hc⟩ := entry_at hl hlt
      have hbw := Nat.lt_of_lt_of_le hbl hbel.size
      have ck0 : _ := (hbel.cell (p := ⟨b, off + k * 9, none⟩) hbl).trans (hc k hlt).1
      have ck1 : _ := (hbel.cell (p := ⟨b, off + k * 9 + 1, none⟩) hbl).trans (hc k hlt).2.1
      have ck2 : _ := (hbel.cell (p := ⟨b, off + k * 9 + 2, none⟩) hbl).trans (hc k hlt).2.2.1
      have ck3 : _ := (hbel.cell (p := ⟨b, off + k * 9 + 3, none⟩) hbl).trans (hc k hlt).2.2.2.1
      have ck4 : _ := (hbel.cell (p := ⟨b, off + k * 9 + 4, none⟩) hbl).trans (hc k hlt).2.2.2.2.1
      have ck5 : _ := (hbel.cell (p := ⟨b, off + k * 9 + 5, none⟩) hbl).trans (hc k hlt).2.2.2.2.2.1
      have ck6 : _ := (hbel.cell (p := ⟨b, off + k * 9 + 6, none⟩) hbl).trans (hc k hlt).2.2.2.2.2.2.1
      have ck7 : _ := (hbel.cell (p := ⟨b, off + k * 9 + 7, none⟩) hbl).trans (hc k hlt).2.2.2.2.2.2.2.1
      have ck8 : _ := (hbel.cell (p := ⟨b, off + k * 9 + 8, none⟩) hbl).trans (hc k hlt).2.2.2.2.2.2.2.2
      clear hc
      have hp : (k : Int) < l.length := by omega
      cases h7 : decide (l[k].1 ≤ bs)
      · cases h8 : decide (la < l[k].1)
        · have HT : Hid (feedIn bs la l[k] = true) := by
            simp only [decide_eq_false_iff_not] at h7 h8
            simp [Hid, feedIn]; omega
          go_wp2_with fail
          go_roundw
          case rel => exact ⟨k + 1, by omega, by go_num, fun i hi h => by
            by_cases he : i = k
            · subst he; exact HT.out
            · exact Hall.out i hi (by omega), hBx.alloc _, by (repeat (first | with_reducible exact Below.refl _ _ | ((with_reducible refine bl_alloc ?_ ?_); (focus (first | (simp; done) | (simp; omega) | omega))) | ((with_reducible refine bl_set ?_ ?_); (focus (first | (simp; done) | (simp; omega) | omega))) | ((with_reducible refine bl_later ?_ ?_); (focus (first | (simp; done) | (simp; omega) | omega))) | with_reducible refine bl_drew ?_ | with_reducible refine bl_drewN ?_ | ((with_reducible refine bl_step (by assumption) ?_ ?_); (focus (first | (simp; done) | (simp; omega) | omega)))))⟩
          case measure => simp [intOf]; omega
        · have HF : Hid (feedIn bs la l[k] = false) := by
            simp only [decide_eq_true_eq] at h8
            simp [Hid, feedIn]; omega
          go_wp2_with fail
          go_ret
          exact ⟨by rw [feedOk_f6 hlt HF.out]; rfl, by (repeat (first | with_reducible exact Below.refl _ _ | ((with_reducible refine bl_alloc ?_ ?_); (focus (first | (simp; done) | (simp; omega) | omega))) | ((with_reducible refine bl_set ?_ ?_); (focus (first | (simp; done) | (simp; omega) | omega))) | ((with_reducible refine bl_later ?_ ?_); (focus (first | (simp; done) | (simp; omega) | omega))) | with_reducible refine bl_drew ?_ | with_reducible refine bl_drewN ?_ | ((with_reducible refine bl_step (by assumption) ?_ ?_); (focus (first | (simp; done) | (simp; omega) | omega)))))⟩
      · have HF : Hid (feedIn bs la l[k] = false) := by
          simp only [decide_eq_true_eq] at h7
          simp [Hid, feedIn]; omega
        go_wp2_with fail
        go_ret
        exact ⟨by rw [feedOk_f6 hlt HF.out]; rfl, by (repeat (first | with_reducible exact Below.refl _ _ | ((with_reducible refine bl_alloc ?_ ?_); (focus (first | (simp; done) | (simp; omega) | omega))) | ((with_reducible refine bl_set ?_ ?_); (focus (first | (simp; done) | (simp; omega) | omega))) | ((with_reducible refine bl_later ?_ ?_); (focus (first | (simp; done) | (simp; omega) | omega))) | with_reducible refine bl_drew ?_ | with_reducible refine bl_drewN ?_ | ((with_reducible refine bl_step (by assumption) ?_ ?_); (focus (first | (simp; done) | (simp; omega) | omega)))))⟩
    · go_wp2
      go_ret
      exact ⟨by rw [feedOk_t h2 h6 h5 h4 fun i hi => Hall.out i hi (by omega)]; rfl, by (repeat (first | with_reducible exact Below.refl _ _ | ((with_reducible refine bl_alloc ?_ ?_); (focus (first | (simp; done) | (simp; omega) | omega))) | ((with_reducible refine bl_set ?_ ?_); (focus (first | (simp; done) | (simp; omega) | omega))) | ((with_reducible refine bl_later ?_ ?_); (focus (first | (simp; done) | (simp; omega) | omega))) | with_reducible refine bl_drew ?_ | with_reducible refine bl_drewN ?_ | ((with_reducible refine bl_step (by assumption) ?_ ?_); (focus (first | (simp; done) | (simp; omega) | omega)))))⟩

end Go.Proofs.Ytpfkfppooeikeaa
