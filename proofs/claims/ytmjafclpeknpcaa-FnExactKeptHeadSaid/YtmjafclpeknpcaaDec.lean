/- decoded, for the letters of one number. -/
import Derived.Test.YtmjafclpeknpcaaRowOne
import Derived.Test.YtmjafclpeknpcaaKindOf
import Derived.Deep.RegionHeld3
namespace Go.Proofs.Ytmjafclpeknpcaa
open Go.RowKit
set_option maxHeartbeats 400000
set_option maxRecDepth 100000
theorem IntsR.tail {w : World} {b off : Nat} {x : Int} {r : List Int} (h : IntsR w (some ⟨b, off, none⟩) (x :: r)) : IntsR w (some ⟨b, off + 1, none⟩) r := by
  obtain ⟨h1, h2, h3⟩ := h
  refine ⟨fun y hy => h1 y (by simp [hy]), by simp at h2; omega, ?_⟩
  rcases h3 with h3 | ⟨b', off', he, hlt, hc⟩
  · simp at h3
  · simp only [Option.some.injEq, Addr.mk.injEq] at he
    obtain ⟨rfl, rfl, _⟩ := he
    refine .inr ⟨b, off + 1, rfl, hlt, fun i y hy => ?_⟩
    have := hc (i + 1) y (by simpa using hy)
    rwa [show off + (i + 1) = off + 1 + i by omega] at this
theorem IntsO.cap {w : World} {lo e cap : Nat} {ao : Option Addr} {l : List Int} (h : IntsO w lo e (.slice ao l.length cap) l) : l.length ≤ cap := by
  rcases h.2.2.2 with ⟨h4, h5⟩ | ⟨g, cap', cur, h4, hb, hg, hnc, hcm, hcs, htake⟩
  · omega
  · simp only [Value.slice.injEq] at h4
    obtain ⟨_, _, rfl⟩ := h4
    exact hnc
theorem kindOf_ne {l : List Int} {k : Int} (h : (kindOf l != k) = true) (h1 : 1 ≤ k) (h9 : k ≤ 9) {n : Nat} (hn : n ≤ 48) : isB l k n = true → ∃ i, ∃ h : i < l.length, numOk l[i] = false := by
  intro hi
  simp only [isB, Bool.and_eq_true, beq_iff_eq] at hi
  obtain ⟨hl, hd⟩ := hi
  by_cases hr : rowOk l = true
  · exfalso
    have : kindOf l = k := by unfold kindOf; rw [hr, hd]; simp [inB]; omega
    simp [this] at h
  · apply Classical.byContradiction
    intro hc
    exact hr (rowOk_good (by omega) fun i h' => by
      cases hx : numOk l[i]
      · exact absurd ⟨i, h', hx⟩ hc
      · rfl)
theorem kindOf_pos {l : List Int} {k : Int} (h : (kindOf l != k) = false) (h1 : 1 ≤ k) : 0 < l.length ∧ l.length ≤ 48 ∧ l.headD 0 = k := by
  simp only [bne_eq_false_iff_eq] at h
  unfold kindOf at h
  split at h
  · rename_i hr
    simp only [Bool.and_eq_true] at hr
    refine ⟨?_, ?_, h⟩
    · cases l with | nil => simp [inB] at hr | cons a b => simp
    · apply Classical.byContradiction
      intro hc
      rw [rowOk_long (by omega)] at hr
      simp at hr
  · omega
theorem oneIs_ne {l : List Int} {k lo hi : Int} (h : (kindOf l != k) = true) (h1 : 1 ≤ k) (h9 : k ≤ 9) (h0 : 0 ≤ lo) (hh : hi ≤ 1000000000) : oneIs l k lo hi = false := by
  cases hb : isB l k 2
  · simp [oneIs, hb]
  · obtain ⟨i, hi1, hi2⟩ := kindOf_ne h h1 h9 (n := 2) (by omega) hb
    have hl : l.length = 2 := by simp [isB] at hb; exact hb.1
    match l, hl with
    | [a, b], _ =>
      have ha : a = k := by simp [isB] at hb; exact hb
      simp only [numOk, List.length_cons, List.length_nil, Nat.zero_add, Nat.reduceAdd] at hi1 hi2
      have h01 : i = 0 ∨ i = 1 := by omega
      rcases h01 with rfl | rfl
      · simp at hi2; omega
      · simp at hi2
        simp [oneIs, inB]
        omega
theorem oneIs_len {l : List Int} {k lo hi : Int} (h : l.length ≠ 2) : oneIs l k lo hi = false := by simp [oneIs, isB, h]
theorem oneOf_f {l : List Int} {k lo hi : Int} (h : oneIs l k lo hi = false) : oneOf l k lo hi = 0 := by simp [oneOf, h]
end Go.Proofs.Ytmjafclpeknpcaa
