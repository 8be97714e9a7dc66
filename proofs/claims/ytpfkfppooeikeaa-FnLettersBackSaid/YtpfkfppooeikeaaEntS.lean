/- Walks of functions of the program, printed by a program of the prover. -/
import Derived.Test.YtpfkfppooeikeaaEnt
import Derived.WalkKit
import Derived.WalkSpells
import Derived.Deep.QuietTactic
import Derived.BigQuiet
import Derived.Deep.Light
import Derived.Lib.Hide
import Derived.Deep.RegionHeld3
namespace Go.Proofs.Ytpfkfppooeikeaa
open Go.ChangeShapes Go.WideShapes Go.ChangeAt Go.RowKit Go.Deep
set_option maxHeartbeats 400000
set_option maxRecDepth 100000

theorem c_laws_eqOp_same (k a b x y : Int) (w : World) : Calls Try.prog 130 #[.agg #[.int .i64 k, .int .i64 a, .int .i64 b, .int .i64 x, .int .i64 y], .agg #[.int .i64 k, .int .i64 a, .int .i64 b, .int .i64 x, .int .i64 y]] w fun e w' => e = .returned (.bool true) ∧ Below w.heap.size w w' := by
  go_enter Try.func130, Try.ntmps130
  go_wp2
  go_ret
  exact ⟨rfl, by (repeat (first | with_reducible exact Below.refl _ _ | ((with_reducible refine bl_alloc ?_ ?_); (focus (first | (simp; done) | (simp; omega) | omega))) | ((with_reducible refine bl_set ?_ ?_); (focus (first | (simp; done) | (simp; omega) | omega))) | ((with_reducible refine bl_later ?_ ?_); (focus (first | (simp; done) | (simp; omega) | omega))) | with_reducible refine bl_drew ?_ | with_reducible refine bl_drewN ?_ | ((with_reducible refine bl_step (by assumption) ?_ ?_); (focus (first | (simp; done) | (simp; omega) | omega)))))⟩

theorem c_laws_szEntryS (ao : Option Addr) (cap n : Nat) (left : Int) (w : World) (h0 : 0 ≤ left) (h1 : left ≤ 1048576) (hn : n ≤ 9223372036854775807) :
    Calls Try.prog 106 #[.slice ao n cap, .int .i64 left] w fun e w' => e = .returned (.int .i64 (szB left n)) ∧ w = w' := by
  by_cases hlt : left - n < 0
  · have hs : szB left n = -1 := if_pos hlt
    have Hs := Lib.hid hs
    clear hs
    go_enter Try.func106, Try.ntmps106
    go_wp2
    go_ret
    exact ⟨by rw [Hs.out]; rfl, rfl⟩
  · have hs : szB left n = left - n := if_neg hlt
    have Hs := Lib.hid hs
    clear hs
    go_enter Try.func106, Try.ntmps106
    go_wp2
    go_ret
    exact ⟨by rw [Hs.out]; rfl, rfl⟩

theorem info_Entry : (Try.prog.info? 70).map (fun i => (i.zero, i.size, i.bytes)) = some (some (.agg #[.int .i64 0, .int .i64 0, .int .i64 0, .int .i64 0, .int .i64 0, .int .i64 0, .int .i64 0, .int .i64 0, .int .i64 0]), 9, 72) := by kernel_rfl
theorem c_laws_toEntryS (ao : Option Addr) (cap : Nat) (l : List (Int × Int × Int × Int × Int × Int × Int × Int × Int)) (w : World) (h : ReadA entryE w ao l) (hs : l.length ≤ 1099511627776) :
    Calls Try.prog 109 #[.slice ao l.length cap] w (RetA entryE w 70 l) := by
  have hm := h.2.1
  obtain ⟨i0, hi, hz0, hz1, hz2⟩ := info_parts info_Entry
  go_enter Try.func109, Try.ntmps109
  go_wp2_with (at_make; refine wpList_make_full _ rfl _ _ 42 rfl w.heap.size 70 i0 (.agg #[.int .i64 0, .int .i64 0, .int .i64 0, .int .i64 0, .int .i64 0, .int .i64 0, .int .i64 0, .int .i64 0, .int .i64 0]) 9 Try.underlying42 hi hz0 hz1 _ _ _ _ l.length rfl rfl rfl rfl ?c1 ?c2 ?c3 ?_)
  case c1 => rw [hz2]; omega
  case c2 => unfold maxLen; omega
  case c3 => omega
  intro w1 hown hgrow
  have hown1 : ∃ xs, PreA entryE l 0 xs ∧ w1.ownsRow w.heap.size 70 9 (.slice (some ⟨w.heap.size, 0, none⟩) l.length l.length) l.length xs := ⟨_, PreA.zero hown.1, hown⟩
  have hb1 : Below w.heap.size w w1 := (Below.refl _ _).grown hgrow (Nat.le_refl _) (by simp)
  clear hown hgrow
  go_wp2
  go_loopw [4] (fun i wr => ∃ k : Nat, k ≤ l.length ∧ i = .int .i64 k ∧ (∃ xs, PreA entryE l k xs ∧ wr.ownsRow w.heap.size 70 9 (.slice (some ⟨w.heap.size, 0, none⟩) l.length l.length) l.length xs) ∧ Below w.heap.size w wr)
    (fun i _ => l.length - (intOf i).toNat)
  case atStart => exact ⟨0, Nat.zero_le _, rfl, hown1, hb1⟩
  case round =>
    obtain ⟨k, hk, rfl, ⟨xs, hpre, hown⟩, hbel⟩ := hrel
    clear hown1 hb1
    by_cases hlt : k < l.length
    · obtain ⟨b, off, rfl, hbl, hc⟩ := entry_at h hlt
      have hck0 : _ := (hbel.cell (p := ⟨b, off + k * 9, none⟩) hbl).trans (hc k hlt).1
      have hck1 : _ := (hbel.cell (p := ⟨b, off + k * 9 + 1, none⟩) hbl).trans (hc k hlt).2.1
      have hck2 : _ := (hbel.cell (p := ⟨b, off + k * 9 + 2, none⟩) hbl).trans (hc k hlt).2.2.1
      have hck3 : _ := (hbel.cell (p := ⟨b, off + k * 9 + 3, none⟩) hbl).trans (hc k hlt).2.2.2.1
      have hck4 : _ := (hbel.cell (p := ⟨b, off + k * 9 + 4, none⟩) hbl).trans (hc k hlt).2.2.2.2.1
      have hck5 : _ := (hbel.cell (p := ⟨b, off + k * 9 + 5, none⟩) hbl).trans (hc k hlt).2.2.2.2.2.1
      have hck6 : _ := (hbel.cell (p := ⟨b, off + k * 9 + 6, none⟩) hbl).trans (hc k hlt).2.2.2.2.2.2.1
      have hck7 : _ := (hbel.cell (p := ⟨b, off + k * 9 + 7, none⟩) hbl).trans (hc k hlt).2.2.2.2.2.2.2.1
      have hck8 : _ := (hbel.cell (p := ⟨b, off + k * 9 + 8, none⟩) hbl).trans (hc k hlt).2.2.2.2.2.2.2.2
      clear hc
      have Hpre := Lib.hid hpre
      have Hown := Lib.hid hown
      clear hpre hown
      go_wp2_with (go_at_call 155; refine (c_laws_toEntry _ _ _ _ _ _ _ _ _ _).mono ?_; rintro e w2 ⟨rfl, hb2⟩; have hown2 := owns_below Hown.out hb2; obtain ⟨u0, hu0⟩ := Hpre.out.cell hlt (j := 0) (by decide); obtain ⟨u1, hu1⟩ := Hpre.out.cell hlt (j := 1) (by decide); obtain ⟨u2, hu2⟩ := Hpre.out.cell hlt (j := 2) (by decide); obtain ⟨u3, hu3⟩ := Hpre.out.cell hlt (j := 3) (by decide); obtain ⟨u4, hu4⟩ := Hpre.out.cell hlt (j := 4) (by decide); obtain ⟨u5, hu5⟩ := Hpre.out.cell hlt (j := 5) (by decide); obtain ⟨u6, hu6⟩ := Hpre.out.cell hlt (j := 6) (by decide); obtain ⟨u7, hu7⟩ := Hpre.out.cell hlt (j := 7) (by decide); obtain ⟨u8, hu8⟩ := Hpre.out.cell hlt (j := 8) (by decide); have hroom := PreA.room (E := entryE) hlt; simp only [entryE_n] at hroom hu0 hu1 hu2 hu3 hu4 hu5 hu6 hu7 hu8; have hcu0 := (hown2.cellAt (k * 9) (by omega)).trans hu0; have hf0 := hown2.frozenAt (k * 9); have hcu1 := (hown2.cellAt (k * 9 + 1) (by omega)).trans hu1; have hf1 := hown2.frozenAt (k * 9 + 1); have hcu2 := (hown2.cellAt (k * 9 + 2) (by omega)).trans hu2; have hf2 := hown2.frozenAt (k * 9 + 2); have hcu3 := (hown2.cellAt (k * 9 + 3) (by omega)).trans hu3; have hf3 := hown2.frozenAt (k * 9 + 3); have hcu4 := (hown2.cellAt (k * 9 + 4) (by omega)).trans hu4; have hf4 := hown2.frozenAt (k * 9 + 4); have hcu5 := (hown2.cellAt (k * 9 + 5) (by omega)).trans hu5; have hf5 := hown2.frozenAt (k * 9 + 5); have hcu6 := (hown2.cellAt (k * 9 + 6) (by omega)).trans hu6; have hf6 := hown2.frozenAt (k * 9 + 6); have hcu7 := (hown2.cellAt (k * 9 + 7) (by omega)).trans hu7; have hf7 := hown2.frozenAt (k * 9 + 7); have hcu8 := (hown2.cellAt (k * 9 + 8) (by omega)).trans hu8; have hf8 := hown2.frozenAt (k * 9 + 8); have Hown2 := Lib.hid hown2; clear hown2 hu0 hu1 hu2 hu3 hu4 hu5 hu6 hu7 hu8 hroom)
      go_roundw
      case rel => exact ⟨k + 1, by omega, by go_num, ⟨_, Hpre.out.step hlt, wsets_owns (entryCells l[k]) _ _ _ Hown2.out⟩, wsets_below (Nat.le_refl _) (entryCells l[k]) _ _ (bl_step hb2 hbel.size hbel)⟩
      case measure => simp [intOf]; omega
    · obtain rfl : k = l.length := by omega
      go_wp2
      go_ret
      exact ⟨_, _, rfl, ⟨h.1, hm, by rw [← hpre.all]; exact hown⟩, hbel⟩

theorem c_laws_eqEntry_same (p0 p1 p2 p3 p4 p5 p6 p7 p8 : Int) (w : World) : Calls Try.prog 157 #[.agg #[.int .i64 p0, .int .i64 p1, .int .i64 p2, .int .i64 p3, .int .i64 p4, .int .i64 p5, .int .i64 p6, .int .i64 p7, .int .i64 p8], .agg #[.int .i64 p0, .int .i64 p1, .int .i64 p2, .int .i64 p3, .int .i64 p4, .int .i64 p5, .int .i64 p6, .int .i64 p7, .int .i64 p8]] w fun e w' => e = .returned (.bool true) ∧ Below w.heap.size w w' := by
  go_enter Try.func157, Try.ntmps157
  go_wp2
  go_ret
  exact ⟨rfl, by (repeat (first | with_reducible exact Below.refl _ _ | ((with_reducible refine bl_alloc ?_ ?_); (focus (first | (simp; done) | (simp; omega) | omega))) | ((with_reducible refine bl_set ?_ ?_); (focus (first | (simp; done) | (simp; omega) | omega))) | ((with_reducible refine bl_later ?_ ?_); (focus (first | (simp; done) | (simp; omega) | omega))) | with_reducible refine bl_drew ?_ | with_reducible refine bl_drewN ?_ | ((with_reducible refine bl_step (by assumption) ?_ ?_); (focus (first | (simp; done) | (simp; omega) | omega)))))⟩
theorem c_laws_eqEntryS_same (ao ao2 : Option Addr) (cap cap2 : Nat) (l : List (Int × Int × Int × Int × Int × Int × Int × Int × Int)) (w : World) (h : ReadA entryE w ao l) (h2 : ReadA entryE w ao2 l) :
    Calls Try.prog 112 #[.slice ao l.length cap, .slice ao2 l.length cap2] w fun e w' => e = .returned (.bool true) ∧ Below w.heap.size w w' := by
  have hm := h.2.1
  go_enter Try.func112, Try.ntmps112
  go_wp2
  go_loopw [5] (fun i wr => ∃ k : Nat, k ≤ l.length ∧ i = .int .i64 k ∧ Below w.heap.size w wr) (fun i _ => l.length - (intOf i).toNat)
  case atStart => exact ⟨0, Nat.zero_le _, rfl, Below.refl _ _⟩
  case round =>
    obtain ⟨k, hk, rfl, hbel⟩ := hrel
    by_cases hlt : k < l.length
    · obtain ⟨b, off, rfl, hbl, hc⟩ := entry_at h hlt
      obtain ⟨b2, off2, rfl, hbl2, hc2⟩ := entry_at h2 hlt
      have hck0 : _ := (hbel.cell (p := ⟨b, off + k * 9, none⟩) hbl).trans (hc k hlt).1
      have hck1 : _ := (hbel.cell (p := ⟨b, off + k * 9 + 1, none⟩) hbl).trans (hc k hlt).2.1
      have hck2 : _ := (hbel.cell (p := ⟨b, off + k * 9 + 2, none⟩) hbl).trans (hc k hlt).2.2.1
      have hck3 : _ := (hbel.cell (p := ⟨b, off + k * 9 + 3, none⟩) hbl).trans (hc k hlt).2.2.2.1
      have hck4 : _ := (hbel.cell (p := ⟨b, off + k * 9 + 4, none⟩) hbl).trans (hc k hlt).2.2.2.2.1
      have hck5 : _ := (hbel.cell (p := ⟨b, off + k * 9 + 5, none⟩) hbl).trans (hc k hlt).2.2.2.2.2.1
      have hck6 : _ := (hbel.cell (p := ⟨b, off + k * 9 + 6, none⟩) hbl).trans (hc k hlt).2.2.2.2.2.2.1
      have hck7 : _ := (hbel.cell (p := ⟨b, off + k * 9 + 7, none⟩) hbl).trans (hc k hlt).2.2.2.2.2.2.2.1
      have hck8 : _ := (hbel.cell (p := ⟨b, off + k * 9 + 8, none⟩) hbl).trans (hc k hlt).2.2.2.2.2.2.2.2
      have hcb0 : _ := (hbel.cell (p := ⟨b2, off2 + k * 9, none⟩) hbl2).trans (hc2 k hlt).1
      have hcb1 : _ := (hbel.cell (p := ⟨b2, off2 + k * 9 + 1, none⟩) hbl2).trans (hc2 k hlt).2.1
      have hcb2 : _ := (hbel.cell (p := ⟨b2, off2 + k * 9 + 2, none⟩) hbl2).trans (hc2 k hlt).2.2.1
      have hcb3 : _ := (hbel.cell (p := ⟨b2, off2 + k * 9 + 3, none⟩) hbl2).trans (hc2 k hlt).2.2.2.1
      have hcb4 : _ := (hbel.cell (p := ⟨b2, off2 + k * 9 + 4, none⟩) hbl2).trans (hc2 k hlt).2.2.2.2.1
      have hcb5 : _ := (hbel.cell (p := ⟨b2, off2 + k * 9 + 5, none⟩) hbl2).trans (hc2 k hlt).2.2.2.2.2.1
      have hcb6 : _ := (hbel.cell (p := ⟨b2, off2 + k * 9 + 6, none⟩) hbl2).trans (hc2 k hlt).2.2.2.2.2.2.1
      have hcb7 : _ := (hbel.cell (p := ⟨b2, off2 + k * 9 + 7, none⟩) hbl2).trans (hc2 k hlt).2.2.2.2.2.2.2.1
      have hcb8 : _ := (hbel.cell (p := ⟨b2, off2 + k * 9 + 8, none⟩) hbl2).trans (hc2 k hlt).2.2.2.2.2.2.2.2
      have hbw := Nat.lt_of_lt_of_le hbl hbel.size
      have hbw2 := Nat.lt_of_lt_of_le hbl2 hbel.size
      clear hc hc2
      have hp : (k : Int) < l.length := by omega
      go_wp2_with fail
      refine wp_region_later (by kernel_rfl) (by kernel_rfl) ?_
      repeat (first | go_big_quiet_step ((go_at_call 157; exact later_call (c_laws_eqEntry_same _ _ _ _ _ _ _ _ _ _))) | quiet_step ((go_at_call 157; exact later_call (c_laws_eqEntry_same _ _ _ _ _ _ _ _ _ _))))
      refine wpQuiet_nil ?_
      intro _ hw'
      obtain ⟨x, hw''⟩ := hw'
      subst hw''
      go_wp2
      go_roundw
      case rel => exact ⟨k + 1, by omega, by go_num, bl_later hbel.size hbel⟩
      case measure => simp [intOf]; omega
    · go_wp2
      go_ret
      exact ⟨rfl, hbel⟩

end Go.Proofs.Ytpfkfppooeikeaa
