/- Walks of functions of the program, printed by a program of the prover. -/
import Derived.Test.YtpfkfppooeikeaaEnt
import Derived.WalkKit
import Derived.WalkSpells
import Derived.Deep.QuietTactic
import Derived.BigQuiet
import Derived.Deep.Light
import Derived.Lib.Hide
import Derived.Deep.RegionHeld3
namespace Go.Proofs.Ytpfkfppooeikeaa
open Go.ChangeShapes Go.WideShapes Go.ChangeAt Go.RowKit Go.Deep
set_option maxHeartbeats 1600000
set_option maxRecDepth 100000

def RetMarkEntry (w : World) (lo : Nat) (ao : Option Addr) (cap : Nat) (n : Nat) (k : Int) (e : Ending) (w' : World) : Prop :=
  e = .returned (.int .i64 (k + 9 * n)) ∧ OwnA entryE w' lo 70 (.slice ao n cap) ((List.range n).map (entryMk k)) ∧ w.grownBy w' (Value.ownBlock (.slice ao n cap)) ∧ w'.heap.size = w.heap.size
theorem c_laws_markEntryS (ao : Option Addr) (cap lo : Nat) (l : List (Int × Int × Int × Int × Int × Int × Int × Int × Int)) (k : Int) (w : World) (h : OwnA entryE w lo 70 (.slice ao l.length cap) l) (hk : 0 ≤ k) (hk2 : k ≤ 1099511627776) (hl : l.length ≤ 1099511627776) :
    Calls Try.prog 146 #[.slice ao l.length cap, .int .i64 k] w (RetMarkEntry w lo ao cap l.length k) := by
  by_cases h0 : l.length = 0
  · obtain rfl : l = [] := List.eq_nil_of_length_eq_zero h0
    simp only [List.length_nil] at *
    go_enter Try.func146, Try.ntmps146
    go_wp2
    refine wp_loop_rounds 1 ?_
    rw [rounds_succ]
    go_wp2
    go_ret
    exact ⟨by simp, h, World.grownBy.refl _ _, rfl⟩
  · obtain ⟨h1, h2, h3⟩ := h
    have hg : ∃ g, ao = some ⟨g, 0, none⟩ := by
      rcases h3.2 with ⟨_, h5⟩ | ⟨g, cap', cur, h4, _⟩
      · exact absurd h5 h0
      · simp only [Value.slice.injEq] at h4
        exact ⟨g, h4.1⟩
    obtain ⟨g, rfl⟩ := hg
    have H3 := Lib.hid h3
    clear h3
    go_enter Try.func146, Try.ntmps146
    go_wp2
    go_loopw [1, 5] (fun kk i wr => ∃ q : Nat, q ≤ l.length ∧ i = .int .i64 q ∧ kk = .int .i64 (k + 9 * (q : Int)) ∧ Hid (wr.ownsRow lo 70 9 (.slice (some ⟨g, 0, none⟩) l.length cap) l.length ((markA entryMk l k q).flatMap entryCells)) ∧ Hid (w.grownBy wr (some g)) ∧ Hid (wr.heap.size = w.heap.size))
      (fun _ i _ => l.length - (intOf i).toNat)
    case atStart => exact ⟨0, Nat.zero_le _, rfl, by simp, by rw [markA_zero]; exact H3.out, World.grownBy.refl _ _, rfl⟩
    case round =>
      obtain ⟨q, hq, rfl, rfl, Hown, Hgr, Hsz⟩ := hrel
      by_cases hlt : q < l.length
      · have hown := Hown.out
        have hrow : ∀ j, j < 9 → ∃ u, ((markA entryMk l k q).flatMap entryCells)[q * 9 + j]? = some u := fun j hj => row_cell entryE (by rw [length_markA entryMk l k (by omega)]; exact hlt) hj
        have hroom : q * 9 + 9 ≤ l.length * 9 := by omega
        obtain ⟨u0, hu0⟩ := hrow 0 (by decide)
        have hcu0 := (hown.cellAt (q * 9) (by omega)).trans hu0
        have hf0 := hown.frozenAt (q * 9)
        obtain ⟨u1, hu1⟩ := hrow 1 (by decide)
        have hcu1 := (hown.cellAt (q * 9 + 1) (by omega)).trans hu1
        have hf1 := hown.frozenAt (q * 9 + 1)
        obtain ⟨u2, hu2⟩ := hrow 2 (by decide)
        have hcu2 := (hown.cellAt (q * 9 + 2) (by omega)).trans hu2
        have hf2 := hown.frozenAt (q * 9 + 2)
        obtain ⟨u3, hu3⟩ := hrow 3 (by decide)
        have hcu3 := (hown.cellAt (q * 9 + 3) (by omega)).trans hu3
        have hf3 := hown.frozenAt (q * 9 + 3)
        obtain ⟨u4, hu4⟩ := hrow 4 (by decide)
        have hcu4 := (hown.cellAt (q * 9 + 4) (by omega)).trans hu4
        have hf4 := hown.frozenAt (q * 9 + 4)
        obtain ⟨u5, hu5⟩ := hrow 5 (by decide)
        have hcu5 := (hown.cellAt (q * 9 + 5) (by omega)).trans hu5
        have hf5 := hown.frozenAt (q * 9 + 5)
        obtain ⟨u6, hu6⟩ := hrow 6 (by decide)
        have hcu6 := (hown.cellAt (q * 9 + 6) (by omega)).trans hu6
        have hf6 := hown.frozenAt (q * 9 + 6)
        obtain ⟨u7, hu7⟩ := hrow 7 (by decide)
        have hcu7 := (hown.cellAt (q * 9 + 7) (by omega)).trans hu7
        have hf7 := hown.frozenAt (q * 9 + 7)
        obtain ⟨u8, hu8⟩ := hrow 8 (by decide)
        have hcu8 := (hown.cellAt (q * 9 + 8) (by omega)).trans hu8
        have hf8 := hown.frozenAt (q * 9 + 8)
        clear hu0 hu1 hu2 hu3 hu4 hu5 hu6 hu7 hu8 hrow hown
        have hb1 : 0 ≤ k + 9 * (q : Int) := by omega
        have hb2 : k + 9 * (q : Int) ≤ 21990232555520 := by omega
        go_wp2
        go_roundw
        case rel => exact ⟨q + 1, by omega, by go_num, by go_num, Eq.mp (congrArg (fun xs => World.ownsRow _ lo _ _ _ _ xs) (markA_succ entryE entryMk l k hlt)) (wsets_owns (entryCells (entryMk k q)) _ _ _ Hown.out),
          wsets_grown (entryCells (entryMk k q)) _ _ Hgr.out, (wsets_size (entryCells (entryMk k q)) (q * 9) wr).trans Hsz.out⟩
        case measure => simp [intOf]; omega
      · obtain rfl : q = l.length := by omega
        go_wp2
        go_ret
        refine ⟨rfl, ⟨fun y hy => ?_, by simp; omega, ?_⟩, Hgr.out, Hsz.out⟩
        · obtain ⟨i, hi, rfl⟩ := List.mem_map.1 hy
          exact entryMk_ok hk hk2 (by have := List.mem_range.1 hi; omega)
        · have := Hown.out
          rw [markA_all] at this
          rw [List.length_map, List.length_range]
          exact this

end Go.Proofs.Ytpfkfppooeikeaa
