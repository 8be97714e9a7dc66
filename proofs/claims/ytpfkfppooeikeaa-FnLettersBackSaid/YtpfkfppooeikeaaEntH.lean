/- Walks of functions of the program, printed by a program of the prover. -/
import Derived.Test.YtpfkfppooeikeaaEnt
import Derived.WalkKit
import Derived.WalkSpells
import Derived.Deep.QuietTactic
import Derived.BigQuiet
import Derived.Deep.Light
import Derived.Lib.Hide
import Derived.Deep.RegionHeld3
namespace Go.Proofs.Ytpfkfppooeikeaa
open Go.ChangeShapes Go.WideShapes Go.ChangeAt Go.RowKit Go.Deep
set_option maxHeartbeats 1600000
set_option maxRecDepth 100000

theorem c_laws_heldEntryS (ao : Option Addr) (cap n : Nat) (k : Int) (w : World) (h : ReadA entryE w ao ((List.range n).map (entryMk k))) (hk : 0 ≤ k) (hk2 : k ≤ 1099511627776) (hl : n ≤ 1099511627776) :
    Calls Try.prog 148 #[.slice ao n cap, .int .i64 k] w fun e w' => e = .returned (.int .i64 (k + 9 * n)) ∧ w = w' := by
  go_enter Try.func148, Try.ntmps148
  go_wp2
  go_loop [1, 5] (fun kk i => ∃ q : Nat, q ≤ n ∧ i = .int .i64 q ∧ kk = .int .i64 (k + 9 * (q : Int))) (fun _ i => n - (intOf i).toNat)
  case atStart => exact ⟨0, Nat.zero_le _, rfl, by simp⟩
  case round =>
    obtain ⟨q, hq, rfl, rfl⟩ := hrel
    by_cases hlt : q < n
    · have hlt2 : q < ((List.range n).map (entryMk k)).length := by simpa using hlt
      obtain ⟨b, off, rfl, hbl, hc⟩ := entry_at h hlt2
      have hck0 : _ := (hc q hlt2).1
      rw [mapRange_at] at hck0
      have hck1 : _ := (hc q hlt2).2.1
      rw [mapRange_at] at hck1
      have hck2 : _ := (hc q hlt2).2.2.1
      rw [mapRange_at] at hck2
      have hck3 : _ := (hc q hlt2).2.2.2.1
      rw [mapRange_at] at hck3
      have hck4 : _ := (hc q hlt2).2.2.2.2.1
      rw [mapRange_at] at hck4
      have hck5 : _ := (hc q hlt2).2.2.2.2.2.1
      rw [mapRange_at] at hck5
      have hck6 : _ := (hc q hlt2).2.2.2.2.2.2.1
      rw [mapRange_at] at hck6
      have hck7 : _ := (hc q hlt2).2.2.2.2.2.2.2.1
      rw [mapRange_at] at hck7
      have hck8 : _ := (hc q hlt2).2.2.2.2.2.2.2.2
      rw [mapRange_at] at hck8
      simp only [entryMk] at *
      clear hc
      have hb1 : 0 ≤ k + 9 * (q : Int) := by omega
      have hb2 : k + 9 * (q : Int) ≤ 21990232555520 := by omega
      go_wp2
      go_round
      case rel => exact ⟨q + 1, by omega, by go_num, by go_num⟩
      case measure => simp [intOf]; omega
    · obtain rfl : q = n := by omega
      go_wp2
      go_ret
      exact ⟨rfl, rfl⟩

end Go.Proofs.Ytpfkfppooeikeaa
