/- KindOf of the program and of the reference, and the law. -/
import Derived.Test.YtpfkfppooeikeaaRows2
namespace Go.Proofs.Ytpfkfppooeikeaa
open Go.RowKit
set_option maxHeartbeats 400000
theorem c_impl_KindOf (ao : Option Addr) (cap : Nat) (l : List Int) (w : World) (h : IntsR w ao l) :
    Calls Try.prog 90 #[.slice ao l.length cap] w fun e w' => e = .returned (.int .i64 (kindOf l)) ∧ w = w' := by
  have hm := h.2.1
  match l, h with
  | [], h =>
    go_enter Try.func90, Try.ntmps90
    go_wp2_with (go_at_call 143; refine (c_impl_RowOk _ _ _ _ h).mono ?_; rintro e w' ⟨rfl, rfl⟩)
    go_ret
    exact ⟨by simp [kindOf, inB], rfl⟩
  | x :: r, h =>
    obtain ⟨b, off, rfl, hbl, hr0, hc⟩ := h.at (k := 0) (by simp)
    have hck := hc 0 (by simp)
    clear hc
    simp only [List.getElem_cons_zero, Nat.add_zero, List.length_cons] at hck hr0 hm
    have hne : ((r.length : Int) + 1 == 0) = false := by simp; omega
    cases hr : rowOk (x :: r)
    · go_enter Try.func90, Try.ntmps90
      go_wp2_with (go_at_call 143; refine (c_impl_RowOk _ _ _ _ h).mono ?_; rintro e w' ⟨rfl, rfl⟩)
      go_ret
      exact ⟨by simp [kindOf, hr], rfl⟩
    · cases hn : inB x 1 9
      all_goals
        go_enter Try.func90, Try.ntmps90
        go_wp2_with (first | (go_at_call 143; refine (c_impl_RowOk _ _ _ _ h).mono ?_; rintro e w' ⟨rfl, rfl⟩) | (go_at_call 110; refine (c_impl_between _ _ _ _).mono ?_; rintro e w' ⟨rfl, rfl⟩))
        go_ret
        exact ⟨by simp [kindOf, hr, hn], rfl⟩

end Go.Proofs.Ytpfkfppooeikeaa
