/- Rows read as letters of one number: fetch, trim, poll. -/
import Derived.Test.YtmjafclpeknpcaaMarks
import Derived.Test.YtmjafclpeknpcaaIface
import Derived.Test.YtmjafclpeknpcaaOne
import Derived.Deep.RegionHeld3
namespace Go.Proofs.Ytmjafclpeknpcaa
open Go.RowKit
set_option maxHeartbeats 400000
set_option maxRecDepth 100000

theorem c_slicesEqual (ao ao2 : Option Addr) (cap cap2 : Nat) (l m : List Int) (w : World) (h : IntsR w ao l) (h2 : IntsR w ao2 m) :
    Calls Try.prog 153 #[.slice ao l.length cap, .slice ao2 m.length cap2] w fun e w' => e = .returned (.bool (l == m)) ∧ Below w.heap.size w w' := by
  have hm := h.2.1
  have hm2 := h2.2.1
  by_cases hlen : l.length = m.length
  · have Hlen := Lib.hid hlen
    have hle : l.length ≤ m.length := by omega
    have hdec : ((l.length : Int) != (m.length : Int)) = false := by simp [hlen]
    clear hlen
    go_enter Try.func153, Try.ntmps153
    go_wp2
    go_loopw [13] (fun i wr => ∃ k : Nat, k ≤ l.length ∧ i = .int .i64 k ∧ Hid (∀ i (h1 : i < l.length) (h2 : i < m.length), i < k → l[i] = m[i]) ∧ Below w.heap.size w wr)
      (fun i _ => l.length - (intOf i).toNat)
    case atStart => exact ⟨0, Nat.zero_le _, rfl, fun i _ _ h => by omega, Below.refl _ _⟩
    case round =>
      obtain ⟨k, hk, rfl, Hall, hbel⟩ := hrel
      by_cases hlt : k < l.length
      · have hlt2 : k < m.length := by omega
        obtain ⟨b, off, rfl, hbl, hr, hc⟩ := h.at hlt
        obtain ⟨b2, off2, rfl, hbl2, hr2, hc2⟩ := h2.at hlt2
        have hck : _ := (hbel.cell (p := ⟨b, off + k, none⟩) hbl).trans (hc k hlt)
        have hck2 : _ := (hbel.cell (p := ⟨b2, off2 + k, none⟩) hbl2).trans (hc2 k hlt2)
        clear hc hc2
        have hp : (k : Int) < l.length := by omega
        have hp2 : (k : Int) < m.length := by omega
        cases hn : (l[k] != m[k])
        · go_wp2_with fail
          go_quiet (fail)
          go_wp2
          go_roundw
          case rel => exact ⟨k + 1, by omega, by go_num, fun i h1 h2 h => by
            by_cases he : i = k
            · subst he; simpa using hn
            · exact Hall.out i h1 h2 (by omega), below_drewN hbel _⟩
          case measure => simp [intOf]; omega
        · go_wp2_with fail
          go_quiet (fail)
          go_wp2
          go_ret
          exact ⟨by rw [ne_of_at hlt hlt2 (by simpa using hn)]; rfl, below_drewN hbel _⟩
      · go_wp2
        go_ret
        exact ⟨by rw [eq_of_all Hlen.out fun i h1 h2 => Hall.out i h1 h2 (by omega)]; rfl, hbel⟩
  · have hdec : ((l.length : Int) != (m.length : Int)) = true := by simp; omega
    have hr := ne_of_length hlen
    go_enter Try.func153, Try.ntmps153
    go_wp2
    go_ret
    exact ⟨by rw [hr]; rfl, Below.refl _ _⟩
theorem c_SameRow (ao ao2 : Option Addr) (cap cap2 : Nat) (l m : List Int) (w : World) (h : IntsR w ao l) (h2 : IntsR w ao2 m) :
    Calls Try.prog 105 #[.slice ao l.length cap, .slice ao2 m.length cap2] w fun e w' => e = .returned (.bool (l == m)) ∧ Below w.heap.size w w' := by
  go_enter Try.func105, Try.ntmps105
  go_wp2_with fail
  refine (c_slicesEqual _ _ _ _ _ _ _ h h2).mono ?_
  rintro e w1 ⟨rfl, hb⟩
  go_wp2_with fail
  go_ret
  exact ⟨rfl, hb⟩

def isB (l : List Int) (k : Int) (n : Nat) : Bool := l.length == n && l.headD 0 == k
/-- a row that is a letter of one number -/
def oneIs (l : List Int) (k lo hi : Int) : Bool := isB l k 2 && inB (l.getD 1 0) lo hi
def oneOf (l : List Int) (k lo hi : Int) : Int := if oneIs l k lo hi then l.getD 1 0 else 0
end Go.Proofs.Ytmjafclpeknpcaa
