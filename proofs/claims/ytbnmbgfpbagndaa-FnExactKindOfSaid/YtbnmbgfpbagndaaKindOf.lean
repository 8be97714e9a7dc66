/- KindOf of the program and of the reference, and the law. -/
import Derived.Test.YtbnmbgfpbagndaaRows2
namespace Go.Proofs.Ytbnmbgfpbagndaa
open Go.RowKit
set_option maxHeartbeats 400000
theorem c_impl_KindOf (ao : Option Addr) (cap : Nat) (l : List Int) (w : World) (h : IntsR w ao l) :
    Calls Try.prog 22 #[.slice ao l.length cap] w fun e w' => e = .returned (.int .i64 (kindOf l)) ∧ w = w' := by
  have hm := h.2.1
  match l, h with
  | [], h =>
    go_enter Try.func22, Try.ntmps22
    go_wp2_with (go_at_call 52; refine (c_impl_RowOk _ _ _ _ h).mono ?_; rintro e w' ⟨rfl, rfl⟩)
    go_ret
    exact ⟨by simp [kindOf, inB], rfl⟩
  | x :: r, h =>
    obtain ⟨b, off, rfl, hbl, hr0, hc⟩ := h.at (k := 0) (by simp)
    have hck := hc 0 (by simp)
    clear hc
    simp only [List.getElem_cons_zero, Nat.add_zero, List.length_cons] at hck hr0 hm
    have hne : ((r.length : Int) + 1 == 0) = false := by simp; omega
    cases hr : rowOk (x :: r)
    · go_enter Try.func22, Try.ntmps22
      go_wp2_with (go_at_call 52; refine (c_impl_RowOk _ _ _ _ h).mono ?_; rintro e w' ⟨rfl, rfl⟩)
      go_ret
      exact ⟨by simp [kindOf, hr], rfl⟩
    · cases hn : inB x 1 9
      all_goals
        go_enter Try.func22, Try.ntmps22
        go_wp2_with (first | (go_at_call 52; refine (c_impl_RowOk _ _ _ _ h).mono ?_; rintro e w' ⟨rfl, rfl⟩) | (go_at_call 46; refine (c_impl_between _ _ _ _).mono ?_; rintro e w' ⟨rfl, rfl⟩))
        go_ret
        exact ⟨by simp [kindOf, hr, hn], rfl⟩

theorem c_law_KindOf (ao : Option Addr) (cap : Nat) (l : List Int) (w : World) (h : IntsR w ao l) :
    Calls Try.prog 6 #[.slice ao l.length cap] w fun e w' => e = .returned (.bool true) ∧ Below w.heap.size w w' := by
  have hm := h.2.1
  by_cases hlen : 1048576 < l.length
  · go_enter Try.func6, Try.ntmps6
    go_wp2
    go_ret
    exact ⟨rfl, Below.refl _ _⟩
  · have hl2 : l.length ≤ 1048576 := by omega
    go_enter Try.func6, Try.ntmps6
    go_wp2_with fail
    refine (c_toInt64S _ _ _ _ h (by omega)).mono ?_
    rintro e w1 ⟨a1, c1, rfl, ho1, hb1⟩
    go_wp2_with fail
    refine (c_spec_KindOf _ _ _ _ ho1.read).mono ?_
    rintro e w1 ⟨rfl, rfl⟩
    go_wp2_with fail
    refine (c_toInt64S _ _ _ _ (h.below hb1) (by omega)).mono ?_
    rintro e w2 ⟨a2, c2, rfl, ho2, hb2⟩
    go_wp2_with fail
    refine (c_impl_KindOf _ _ _ _ ho2.read).mono ?_
    rintro e w2 ⟨rfl, rfl⟩
    go_wp2_with fail
    refine (c_toInt64S _ _ _ _ ((h.below hb1).below hb2) (by omega)).mono ?_
    rintro e w3 ⟨a3, c3, rfl, ho3, hb3⟩
    go_wp2_with fail
    refine (c_eqInt64S _ _ _ _ _ _ _ (ho2.read.below hb3) ho3.read).mono ?_
    rintro e w4 ⟨rfl, hb4⟩
    go_wp2_with fail
    go_ret
    exact ⟨by simp, bl_step hb4 (by have := hb1.size; have := hb2.size; have := hb3.size; omega) (bl_step hb3 (by have := hb1.size; have := hb2.size; omega) (bl_step hb2 hb1.size hb1))⟩
end Go.Proofs.Ytbnmbgfpbagndaa
