/- Rows of numbers: RowOk, toInt64S, eqInt64S of the program, the reference and the laws, and KindOf. -/
import Derived.Test.YtmjafclpeknpcaaLeaf
import Derived.Test.YtmjafclpeknpcaaInts
import Derived.WalkKit
import Derived.WalkSpells
import Derived.Deep.QuietTactic
import Derived.BigQuiet
import Derived.Deep.Light
import Derived.Lib.Hide
namespace Go.Proofs.Ytmjafclpeknpcaa
open Go.RowKit
set_option maxHeartbeats 400000
theorem numOk_inB (x : Int) : inB x 0 1000000000 = numOk x := rfl
theorem c_spec_RowOk (ao : Option Addr) (cap : Nat) (l : List Int) (w : World) (h : IntsR w ao l) :
    Calls Try.prog 134 #[.slice ao l.length cap] w fun e w' => e = .returned (.bool (rowOk l)) ∧ w = w' := by
  have hm := h.2.1
  by_cases hlen : 48 < l.length
  · have hr := rowOk_long hlen
    go_enter Try.func134, Try.ntmps134
    go_wp2
    go_ret
    exact ⟨by rw [hr]; rfl, rfl⟩
  · have hl2 : l.length ≤ 48 := by omega
    go_enter Try.func134, Try.ntmps134
    go_wp2
    go_loop [3] (fun i => ∃ k : Nat, k ≤ l.length ∧ i = .int .i64 k ∧ ∀ i (hi : i < l.length), i < k → numOk l[i] = true) (fun i => l.length - (intOf i).toNat)
    case atStart => exact ⟨0, Nat.zero_le _, rfl, fun i hi h => by omega⟩
    case round =>
      obtain ⟨k, hk, rfl, hall⟩ := hrel
      have Hall := Lib.hid hall
      clear hall
      by_cases hlt : k < l.length
      · obtain ⟨b, off, rfl, hbl, hr, hc⟩ := h.at hlt
        have hck := hc k hlt
        clear hc
        cases hn : numOk l[k]
        · go_wp2_with (go_at_call 122; refine (c_spec_l1In _ _ _ _).mono ?_; rintro e w' ⟨rfl, rfl⟩; simp only [numOk_inB])
          go_ret
          exact ⟨by rw [rowOk_bad hlt hn]; rfl, rfl⟩
        · go_wp2_with (go_at_call 122; refine (c_spec_l1In _ _ _ _).mono ?_; rintro e w' ⟨rfl, rfl⟩; simp only [numOk_inB])
          go_round
          case rel => exact ⟨k + 1, by omega, by go_num, fun i hi h => by
            by_cases he : i = k
            · subst he; exact hn
            · exact Hall.out i hi (by omega)⟩
          case measure => simp [intOf]; omega
      · go_wp2
        go_ret
        exact ⟨by rw [rowOk_good hl2 fun i hi => Hall.out i hi (by omega)]; rfl, rfl⟩
theorem c_impl_RowOk (ao : Option Addr) (cap : Nat) (l : List Int) (w : World) (h : IntsR w ao l) :
    Calls Try.prog 157 #[.slice ao l.length cap] w fun e w' => e = .returned (.bool (rowOk l)) ∧ w = w' := by
  have hm := h.2.1
  by_cases hlen : 48 < l.length
  · have hr := rowOk_long hlen
    go_enter Try.func157, Try.ntmps157
    go_wp2
    go_ret
    exact ⟨by rw [hr]; rfl, rfl⟩
  · have hl2 : l.length ≤ 48 := by omega
    go_enter Try.func157, Try.ntmps157
    go_wp2
    go_loop [10] (fun i => ∃ k : Nat, k ≤ l.length ∧ i = .int .i64 k ∧ ∀ i (hi : i < l.length), i < k → numOk l[i] = true) (fun i => l.length - (intOf i).toNat)
    case atStart => exact ⟨0, Nat.zero_le _, rfl, fun i hi h => by omega⟩
    case round =>
      obtain ⟨k, hk, rfl, hall⟩ := hrel
      have Hall := Lib.hid hall
      clear hall
      by_cases hlt : k < l.length
      · obtain ⟨b, off, rfl, hbl, hr, hc⟩ := h.at hlt
        have hck := hc k hlt
        clear hc
        cases hn : numOk l[k]
        · go_wp2_with (go_at_call 143; refine (c_impl_between _ _ _ _).mono ?_; rintro e w' ⟨rfl, rfl⟩; simp only [numOk_inB])
          go_ret
          exact ⟨by rw [rowOk_bad hlt hn]; rfl, rfl⟩
        · go_wp2_with (go_at_call 143; refine (c_impl_between _ _ _ _).mono ?_; rintro e w' ⟨rfl, rfl⟩; simp only [numOk_inB])
          go_round
          case rel => exact ⟨k + 1, by omega, by go_num, fun i hi h => by
            by_cases he : i = k
            · subst he; exact hn
            · exact Hall.out i hi (by omega)⟩
          case measure => simp [intOf]; omega
      · go_wp2
        go_ret
        exact ⟨by rw [rowOk_good hl2 fun i hi => Hall.out i hi (by omega)]; rfl, rfl⟩
def kindOf (l : List Int) : Int := if rowOk l && inB (l.headD 0) 1 9 then l.headD 0 else 0

theorem info_int64 : (Try.prog.info? 2).map (fun i => (i.zero, i.size, i.bytes)) = some (some (.int .i64 0), 1, 8) := by kernel_rfl
theorem c_toInt64S (ao : Option Addr) (cap : Nat) (l : List Int) (w : World) (h : IntsR w ao l) (hs : l.length ≤ 1099511627776) :
    Calls Try.prog 137 #[.slice ao l.length cap] w (RetI w 2 l) := by
  have hm := h.2.1
  obtain ⟨i0, hi, hz0, hz1, hz2⟩ := info_parts info_int64
  go_enter Try.func137, Try.ntmps137
  go_wp2_with (at_make; refine wpList_make_full _ rfl _ _ 85 rfl w.heap.size 2 i0 (.int .i64 0) 1 Try.underlying85 hi hz0 hz1 _ _ _ _ l.length rfl rfl rfl rfl ?c1 ?c2 ?c3 ?_)
  case c1 => rw [hz2]; omega
  case c2 => unfold maxLen; omega
  case c3 => omega
  intro w1 hown hgrow
  have hown1 : w1.ownsRow w.heap.size 2 1 (.slice (some ⟨w.heap.size, 0, none⟩) l.length l.length) l.length (partRow l 0) := by
    rw [partRow_zero]
    simpa [toList_madeCells_one] using hown
  have hb1 : Below w.heap.size w w1 := (Below.refl _ _).grown hgrow (Nat.le_refl _) (by simp)
  clear hown hgrow
  go_wp2
  go_loopw [4] (fun i wr => ∃ k : Nat, k ≤ l.length ∧ i = .int .i64 k ∧ wr.ownsRow w.heap.size 2 1 (.slice (some ⟨w.heap.size, 0, none⟩) l.length l.length) l.length (partRow l k) ∧ Below w.heap.size w wr)
    (fun i _ => l.length - (intOf i).toNat)
  case atStart => exact ⟨0, Nat.zero_le _, rfl, hown1, hb1⟩
  case round =>
    obtain ⟨k, hk, rfl, hown, hbel⟩ := hrel
    clear hown1 hb1
    by_cases hlt : k < l.length
    · obtain ⟨b, off, rfl, hbl, hr, hc⟩ := h.at hlt
      have hck : _ := (hbel.cell (p := ⟨b, off + k, none⟩) hbl).trans (hc k hlt)
      clear hc
      obtain ⟨u, hu⟩ := partRow_at l hlt
      have hcu : _ := (hown.cellAt k (by omega)).trans hu
      have hfu := hown.frozenAt k
      have hst := hown.stored k (.int .i64 l[k])
      rw [partRow_succ l hlt] at hst
      have Hst := Lib.hid hst
      clear hst hu
      go_wp2
      go_roundw
      case rel => exact ⟨k + 1, by omega, by go_num, Hst.out.1, hbel.setCell (by simp) _⟩
      case measure => simp [intOf]; omega
    · obtain rfl : k = l.length := by omega
      rw [partRow_all] at hown
      go_wp2
      go_ret
      exact ⟨_, _, rfl, .made h.1 hm hown, hbel⟩
theorem eq_of_all {l m : List Int} (hl : l.length = m.length) (h : ∀ i (h1 : i < l.length) (h2 : i < m.length), l[i] = m[i]) : (l == m) = true := by
  rw [beq_iff_eq]; exact List.ext_getElem hl h
theorem ne_of_at {l m : List Int} {k : Nat} (h1 : k < l.length) (h2 : k < m.length) (h : l[k] ≠ m[k]) : (l == m) = false := by
  rw [beq_eq_false_iff_ne]; rintro rfl; exact h rfl
theorem ne_of_length {l m : List Int} (h : l.length ≠ m.length) : (l == m) = false := by
  rw [beq_eq_false_iff_ne]; rintro rfl; exact h rfl
theorem c_eqInt64S (ao ao2 : Option Addr) (cap cap2 : Nat) (l m : List Int) (w : World) (h : IntsR w ao l) (h2 : IntsR w ao2 m) :
    Calls Try.prog 149 #[.slice ao l.length cap, .slice ao2 m.length cap2] w fun e w' => e = .returned (.bool (l == m)) ∧ Below w.heap.size w w' := by
  have hm := h.2.1
  have hm2 := h2.2.1
  by_cases hlen : l.length = m.length
  · have Hlen := Lib.hid hlen
    have hle : l.length ≤ m.length := by omega
    have hdec : ((l.length : Int) != (m.length : Int)) = false := by simp [hlen]
    clear hlen
    go_enter Try.func149, Try.ntmps149
    go_wp2
    go_loopw [5] (fun i wr => ∃ k : Nat, k ≤ l.length ∧ i = .int .i64 k ∧ Hid (∀ i (h1 : i < l.length) (h2 : i < m.length), i < k → l[i] = m[i]) ∧ Below w.heap.size w wr)
      (fun i _ => l.length - (intOf i).toNat)
    case atStart => exact ⟨0, Nat.zero_le _, rfl, fun i _ _ h => by omega, Below.refl _ _⟩
    case round =>
      obtain ⟨k, hk, rfl, Hall, hbel⟩ := hrel
      by_cases hlt : k < l.length
      · have hlt2 : k < m.length := by omega
        obtain ⟨b, off, rfl, hbl, hr, hc⟩ := h.at hlt
        obtain ⟨b2, off2, rfl, hbl2, hr2, hc2⟩ := h2.at hlt2
        have hck : _ := (hbel.cell (p := ⟨b, off + k, none⟩) hbl).trans (hc k hlt)
        have hck2 : _ := (hbel.cell (p := ⟨b2, off2 + k, none⟩) hbl2).trans (hc2 k hlt2)
        clear hc hc2
        have hp : (k : Int) < l.length := by omega
        have hp2 : (k : Int) < m.length := by omega
        cases hn : (l[k] != m[k])
        · go_wp2_with fail
          go_quiet (fail)
          go_wp2
          go_roundw
          case rel => exact ⟨k + 1, by omega, by go_num, fun i h1 h2 h => by
            by_cases he : i = k
            · subst he; simpa using hn
            · exact Hall.out i h1 h2 (by omega), below_drewN hbel _⟩
          case measure => simp [intOf]; omega
        · go_wp2_with fail
          go_quiet (fail)
          go_wp2
          go_ret
          exact ⟨by rw [ne_of_at hlt hlt2 (by simpa using hn)]; rfl, below_drewN hbel _⟩
      · go_wp2
        go_ret
        exact ⟨by rw [eq_of_all Hlen.out fun i h1 h2 => Hall.out i h1 h2 (by omega)]; rfl, hbel⟩
  · have hdec : ((l.length : Int) != (m.length : Int)) = true := by simp; omega
    have hr := ne_of_length hlen
    go_enter Try.func149, Try.ntmps149
    go_wp2
    go_ret
    exact ⟨by rw [hr]; rfl, Below.refl _ _⟩
end Go.Proofs.Ytmjafclpeknpcaa
