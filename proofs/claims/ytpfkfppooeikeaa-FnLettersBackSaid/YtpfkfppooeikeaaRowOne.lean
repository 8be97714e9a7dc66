/- Rows read as letters of one number: fetch, trim, poll. -/
import Derived.Test.YtpfkfppooeikeaaMarks
import Derived.Test.YtpfkfppooeikeaaIface
import Derived.Test.YtpfkfppooeikeaaOne
import Derived.Deep.RegionHeld3
namespace Go.Proofs.Ytpfkfppooeikeaa
open Go.RowKit
set_option maxHeartbeats 400000
set_option maxRecDepth 100000

theorem c_slicesEqual (ao ao2 : Option Addr) (cap cap2 : Nat) (l m : List Int) (w : World) (h : IntsR w ao l) (h2 : IntsR w ao2 m) :
    Calls Try.prog 167 #[.slice ao l.length cap, .slice ao2 m.length cap2] w fun e w' => e = .returned (.bool (l == m)) ∧ Below w.heap.size w w' := by
  have hm := h.2.1
  have hm2 := h2.2.1
  by_cases hlen : l.length = m.length
  · have Hlen := Lib.hid hlen
    have hle : l.length ≤ m.length := by omega
    have hdec : ((l.length : Int) != (m.length : Int)) = false := by simp [hlen]
    clear hlen
    go_enter Try.func167, Try.ntmps167
    go_wp2
    go_loopw [13] (fun i wr => ∃ k : Nat, k ≤ l.length ∧ i = .int .i64 k ∧ Hid (∀ i (h1 : i < l.length) (h2 : i < m.length), i < k → l[i] = m[i]) ∧ Below w.heap.size w wr)
      (fun i _ => l.length - (intOf i).toNat)
    case atStart => exact ⟨0, Nat.zero_le _, rfl, fun i _ _ h => by omega, Below.refl _ _⟩
    case round =>
      obtain ⟨k, hk, rfl, Hall, hbel⟩ := hrel
      by_cases hlt : k < l.length
      · have hlt2 : k < m.length := by omega
        obtain ⟨b, off, rfl, hbl, hr, hc⟩ := h.at hlt
        obtain ⟨b2, off2, rfl, hbl2, hr2, hc2⟩ := h2.at hlt2
        have hck : _ := (hbel.cell (p := ⟨b, off + k, none⟩) hbl).trans (hc k hlt)
        have hck2 : _ := (hbel.cell (p := ⟨b2, off2 + k, none⟩) hbl2).trans (hc2 k hlt2)
        clear hc hc2
        have hp : (k : Int) < l.length := by omega
        have hp2 : (k : Int) < m.length := by omega
        cases hn : (l[k] != m[k])
        · go_wp2_with fail
          go_quiet (fail)
          go_wp2
          go_roundw
          case rel => exact ⟨k + 1, by omega, by go_num, fun i h1 h2 h => by
            by_cases he : i = k
            · subst he; simpa using hn
            · exact Hall.out i h1 h2 (by omega), below_drewN hbel _⟩
          case measure => simp [intOf]; omega
        · go_wp2_with fail
          go_quiet (fail)
          go_wp2
          go_ret
          exact ⟨by rw [ne_of_at hlt hlt2 (by simpa using hn)]; rfl, below_drewN hbel _⟩
      · go_wp2
        go_ret
        exact ⟨by rw [eq_of_all Hlen.out fun i h1 h2 => Hall.out i h1 h2 (by omega)]; rfl, hbel⟩
  · have hdec : ((l.length : Int) != (m.length : Int)) = true := by simp; omega
    have hr := ne_of_length hlen
    go_enter Try.func167, Try.ntmps167
    go_wp2
    go_ret
    exact ⟨by rw [hr]; rfl, Below.refl _ _⟩
theorem c_SameRow (ao ao2 : Option Addr) (cap cap2 : Nat) (l m : List Int) (w : World) (h : IntsR w ao l) (h2 : IntsR w ao2 m) :
    Calls Try.prog 150 #[.slice ao l.length cap, .slice ao2 m.length cap2] w fun e w' => e = .returned (.bool (l == m)) ∧ Below w.heap.size w w' := by
  go_enter Try.func150, Try.ntmps150
  go_wp2_with fail
  refine (c_slicesEqual _ _ _ _ _ _ _ h h2).mono ?_
  rintro e w1 ⟨rfl, hb⟩
  go_wp2_with fail
  go_ret
  exact ⟨rfl, hb⟩

def isB (l : List Int) (k : Int) (n : Nat) : Bool := l.length == n && l.headD 0 == k
theorem c_spec_l11Is (ao : Option Addr) (cap n : Nat) (k : Int) (l : List Int) (w : World) (h : IntsR w ao l) (hn : 0 < n) (hn2 : n ≤ 100) :
    Calls Try.prog 116 #[.slice ao l.length cap, .int .i64 k, .int .i64 n] w fun e w' => e = .returned (.bool (isB l k n)) ∧ w = w' := by
  have hm := h.2.1
  by_cases hlen : l.length = n
  · have h0 : 0 < l.length := by omega
    obtain ⟨b, off, rfl, hbl, hr0, hc⟩ := h.at h0
    have hck := hc 0 h0
    clear hc
    have hd : l.headD 0 = l[0] := by cases l with | nil => simp at h0 | cons x r => rfl
    have hi : isB l k n = (l[0] == k) := by unfold isB; rw [hd]; simp [hlen]
    rw [hi]
    rw [Nat.add_zero] at hck
    have hdec : ((l.length : Int) == (n : Int)) = true := by simp [hlen]
    have hp : (0 : Int) < l.length := by omega
    clear hd hlen hi
    go_enter Try.func116, Try.ntmps116
    go_wp2
    go_ret
    exact ⟨rfl, rfl⟩
  · have hi : isB l k n = false := by simp [isB, hlen]
    have hdec : ((l.length : Int) == (n : Int)) = false := by simp; omega
    rw [hi]
    go_enter Try.func116, Try.ntmps116
    go_wp2
    go_ret
    exact ⟨rfl, rfl⟩
/-- a row that is a letter of one number -/
def oneIs (l : List Int) (k lo hi : Int) : Bool := isB l k 2 && inB (l.getD 1 0) lo hi
def oneOf (l : List Int) (k lo hi : Int) : Int := if oneIs l k lo hi then l.getD 1 0 else 0
theorem c_spec_l11RowOne (ao : Option Addr) (cap : Nat) (l : List Int) (k lo hi : Int) (w : World) (h : IntsR w ao l) :
    Calls Try.prog 98 #[.slice ao l.length cap, .int .i64 k, .int .i64 lo, .int .i64 hi] w fun e w' => e = .returned (.tuple #[.int .i64 (oneOf l k lo hi), .bool (oneIs l k lo hi)]) ∧ w = w' := by
  have hm := h.2.1
  cases hi1 : isB l k 2
  · have e1 : oneIs l k lo hi = false := by simp [oneIs, hi1]
    have e2 : oneOf l k lo hi = 0 := by simp [oneOf, e1]
    rw [e1, e2]
    go_enter Try.func98, Try.ntmps98
    go_wp2_with (go_at_call 116; refine (c_spec_l11Is _ _ 2 _ _ _ h (by omega) (by omega)).mono ?_; rintro e w' ⟨rfl, rfl⟩)
    refine bodyPost_ret (v := .tuple #[.int .i64 0, .bool false]) (by simp [results, Try.results98, go_sem, *]) rfl ⟨rfl, rfl⟩
  · obtain ⟨x0, x1, rfl⟩ : ∃ x0 x1, l = [x0, x1] := by
      have hl : l.length = 2 := by simp [isB] at hi1; exact hi1.1
      match l, hl with | [a, b], _ => exact ⟨a, b, rfl⟩
    obtain ⟨b, off, rfl, hbl, hr0, hc⟩ := h.at (k := 1) (by simp)
    have hck := hc 1 (by simp)
    clear hc
    simp only [List.getElem_cons_succ, List.getElem_cons_zero, List.length_cons, List.length_nil, Nat.zero_add, Nat.reduceAdd] at hck hr0 hm h ⊢
    cases hi2 : inB x1 lo hi
    · have e1 : oneIs [x0, x1] k lo hi = false := by simp [oneIs, hi1, hi2]
      have e2 : oneOf [x0, x1] k lo hi = 0 := by simp [oneOf, e1]
      rw [e1, e2]
      go_enter Try.func98, Try.ntmps98
      go_wp2_with (first | (go_at_call 116; refine (c_spec_l11Is _ _ 2 _ [x0, x1] _ h (by omega) (by omega)).mono ?_; rintro e w' ⟨rfl, rfl⟩) | (go_at_call 107; refine (c_spec_l1In _ _ _ _).mono ?_; rintro e w' ⟨rfl, rfl⟩))
      refine bodyPost_ret (v := .tuple #[.int .i64 0, .bool false]) (by simp [results, Try.results98, go_sem, *]) rfl ⟨rfl, rfl⟩
    · have e1 : oneIs [x0, x1] k lo hi = true := by simp [oneIs, hi1, hi2]
      have e2 : oneOf [x0, x1] k lo hi = x1 := by simp [oneOf, e1]
      rw [e1, e2]
      go_enter Try.func98, Try.ntmps98
      go_wp2_with (first | (go_at_call 116; refine (c_spec_l11Is _ _ 2 _ [x0, x1] _ h (by omega) (by omega)).mono ?_; rintro e w' ⟨rfl, rfl⟩) | (go_at_call 107; refine (c_spec_l1In _ _ _ _).mono ?_; rintro e w' ⟨rfl, rfl⟩))
      refine bodyPost_ret (v := .tuple #[.int .i64 x1, .bool true]) (by simp [results, Try.results98, go_sem, *]) rfl ⟨rfl, rfl⟩
end Go.Proofs.Ytpfkfppooeikeaa
