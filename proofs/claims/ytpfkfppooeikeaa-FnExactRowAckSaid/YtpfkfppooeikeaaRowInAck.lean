/- Walks of functions of the program, printed by a program of the prover. -/
import Derived.Test.YtpfkfppooeikeaaRowOfAck
import Derived.WalkKit
import Derived.WalkSpells
import Derived.Deep.QuietTactic
import Derived.BigQuiet
import Derived.Deep.Light
import Derived.Lib.Hide
import Derived.Deep.RegionHeld3
namespace Go.Proofs.Ytpfkfppooeikeaa
open Go.ChangeShapes Go.WideShapes Go.ChangeAt Go.RowKit Go.Deep
set_option maxHeartbeats 800000
set_option maxRecDepth 100000
theorem c_decoded_Ack_bad (ao : Option Addr) (cap : Nat) (l : List Int) (w : World) (hh : IntsR w ao l) (hk : (kindOf l != 2) = true) :
    Calls Try.prog 121 #[.slice ao l.length cap, .int .i64 2, .int .i64 4, .int .i64 4, .func (Fn.func 122) #[] #[]] w fun e w' => e = .returned (.tuple #[.agg #[.int .i64 0, .int .i64 0, .int .i64 0, .int .i64 0], .bool false]) ∧ Below w.heap.size w w' := by
  have hm := hh.2.1
  have h' : ∀ W, Below w.heap.size w W → IntsR W ao l := fun W hb => hh.below hb
  go_enter Try.func121, Try.ntmps121
  go_wp2_with (go_at_call 90; refine (c_impl_KindOf _ _ l _ (h' _ (by (repeat (first | with_reducible exact Below.refl _ _ | ((with_reducible refine bl_alloc ?_ ?_); (focus (first | (simp; done) | (simp; omega) | omega))) | ((with_reducible refine bl_set ?_ ?_); (focus (first | (simp; done) | (simp; omega) | omega))) | ((with_reducible refine bl_later ?_ ?_); (focus (first | (simp; done) | (simp; omega) | omega))) | with_reducible refine bl_drew ?_ | with_reducible refine bl_drewN ?_ | ((with_reducible refine bl_step (by assumption) ?_ ?_); (focus (first | (simp; done) | (simp; omega) | omega)))))))).mono ?_; rintro e w' ⟨rfl, rfl⟩)
  refine bodyPost_ret (v := .tuple #[.agg #[.int .i64 0, .int .i64 0, .int .i64 0, .int .i64 0], .bool false]) (by simp [results, Try.results121, go_sem, *]) rfl ⟨rfl, ?_⟩
  (repeat (first | with_reducible exact Below.refl _ _ | ((with_reducible refine bl_alloc ?_ ?_); (focus (first | (simp; done) | (simp; omega) | omega))) | ((with_reducible refine bl_set ?_ ?_); (focus (first | (simp; done) | (simp; omega) | omega))) | ((with_reducible refine bl_later ?_ ?_); (focus (first | (simp; done) | (simp; omega) | omega))) | with_reducible refine bl_drew ?_ | with_reducible refine bl_drewN ?_ | ((with_reducible refine bl_step (by assumption) ?_ ?_); (focus (first | (simp; done) | (simp; omega) | omega)))))
theorem c_decoded_Ack_len (ao : Option Addr) (cap : Nat) (l : List Int) (w : World) (hh : IntsR w ao l) (hk : (kindOf l != 2) = false) (h2 : l.length ≠ 5) :
    Calls Try.prog 121 #[.slice ao l.length cap, .int .i64 2, .int .i64 4, .int .i64 4, .func (Fn.func 122) #[] #[]] w fun e w' => e = .returned (.tuple #[.agg #[.int .i64 0, .int .i64 0, .int .i64 0, .int .i64 0], .bool false]) ∧ Below w.heap.size w w' := by
  have hm := hh.2.1
  obtain ⟨hl0, hl1, hd⟩ := kindOf_pos hk (by omega)
  clear hd
  have h' : ∀ W, Below w.heap.size w W → IntsR W ao l := fun W hb => hh.below hb
  by_cases h1 : l.length < 5
  · have e2 : decide ((l.length : Int) - 1 < 4) = true := by simp; omega
    go_enter Try.func121, Try.ntmps121
    go_wp2_with (go_at_call 90; refine (c_impl_KindOf _ _ l _ (h' _ (by (repeat (first | with_reducible exact Below.refl _ _ | ((with_reducible refine bl_alloc ?_ ?_); (focus (first | (simp; done) | (simp; omega) | omega))) | ((with_reducible refine bl_set ?_ ?_); (focus (first | (simp; done) | (simp; omega) | omega))) | ((with_reducible refine bl_later ?_ ?_); (focus (first | (simp; done) | (simp; omega) | omega))) | with_reducible refine bl_drew ?_ | with_reducible refine bl_drewN ?_ | ((with_reducible refine bl_step (by assumption) ?_ ?_); (focus (first | (simp; done) | (simp; omega) | omega)))))))).mono ?_; rintro e w' ⟨rfl, rfl⟩)
    refine bodyPost_ret (v := .tuple #[.agg #[.int .i64 0, .int .i64 0, .int .i64 0, .int .i64 0], .bool false]) (by simp [results, Try.results121, go_sem, *]) rfl ⟨rfl, ?_⟩
    (repeat (first | with_reducible exact Below.refl _ _ | ((with_reducible refine bl_alloc ?_ ?_); (focus (first | (simp; done) | (simp; omega) | omega))) | ((with_reducible refine bl_set ?_ ?_); (focus (first | (simp; done) | (simp; omega) | omega))) | ((with_reducible refine bl_later ?_ ?_); (focus (first | (simp; done) | (simp; omega) | omega))) | with_reducible refine bl_drew ?_ | with_reducible refine bl_drewN ?_ | ((with_reducible refine bl_step (by assumption) ?_ ?_); (focus (first | (simp; done) | (simp; omega) | omega)))))
  · have e2 : decide ((l.length : Int) - 1 < 4) = false := by simp; omega
    have e3 : decide (4 < (l.length : Int) - 1) = true := by simp; omega
    go_enter Try.func121, Try.ntmps121
    go_wp2_with (go_at_call 90; refine (c_impl_KindOf _ _ l _ (h' _ (by (repeat (first | with_reducible exact Below.refl _ _ | ((with_reducible refine bl_alloc ?_ ?_); (focus (first | (simp; done) | (simp; omega) | omega))) | ((with_reducible refine bl_set ?_ ?_); (focus (first | (simp; done) | (simp; omega) | omega))) | ((with_reducible refine bl_later ?_ ?_); (focus (first | (simp; done) | (simp; omega) | omega))) | with_reducible refine bl_drew ?_ | with_reducible refine bl_drewN ?_ | ((with_reducible refine bl_step (by assumption) ?_ ?_); (focus (first | (simp; done) | (simp; omega) | omega)))))))).mono ?_; rintro e w' ⟨rfl, rfl⟩)
    refine bodyPost_ret (v := .tuple #[.agg #[.int .i64 0, .int .i64 0, .int .i64 0, .int .i64 0], .bool false]) (by simp [results, Try.results121, go_sem, *]) rfl ⟨rfl, ?_⟩
    (repeat (first | with_reducible exact Below.refl _ _ | ((with_reducible refine bl_alloc ?_ ?_); (focus (first | (simp; done) | (simp; omega) | omega))) | ((with_reducible refine bl_set ?_ ?_); (focus (first | (simp; done) | (simp; omega) | omega))) | ((with_reducible refine bl_later ?_ ?_); (focus (first | (simp; done) | (simp; omega) | omega))) | with_reducible refine bl_drew ?_ | with_reducible refine bl_drewN ?_ | ((with_reducible refine bl_step (by assumption) ?_ ?_); (focus (first | (simp; done) | (simp; omega) | omega)))))
theorem isAck_len {l : List Int} (h : l.length ≠ 5) : isAck l = false := by simp [isAck, isB, h]
theorem isAck_ne {l : List Int} (h : (kindOf l != 2) = true) : isAck l = false := by
  cases hb : isB l 2 5
  · simp [isAck, hb]
  · obtain ⟨ix, hi1, hi2⟩ := kindOf_ne h (by omega) (by omega) (n := 5) (by omega) hb
    have hl : l.length = 5 := by simp [isB] at hb; exact hb.1
    match l, hl with
    | [x0, c, q, i, u], _ =>
      obtain rfl : x0 = 2 := by simp [isB] at hb; exact hb
      clear h hb
      simp only [numOk, List.length_cons, List.length_nil, Nat.zero_add, Nat.reduceAdd] at hi1 hi2
      have h01 : ix = 0 ∨ ix = 1 ∨ ix = 2 ∨ ix = 3 ∨ ix = 4 := by omega
      cases hx : isAck [2, c, q, i, u]
      · rfl
      · exfalso
        simp [isAck, isB, ackOk, inB] at hx
        rcases h01 with rfl | rfl | rfl | rfl | rfl <;> simp at hi2 <;> first | omega | (split at hx <;> omega)
theorem partsAck_f {l : List Int} (h : isAck l = false) : partsAck l = [0, 0, 0, 0] := by simp [partsAck, h]
theorem c_decoded_Ack (ao : Option Addr) (cap : Nat) (l : List Int) (w : World) (hh : IntsR w ao l) (hcap : l.length ≤ cap) :
    Calls Try.prog 121 #[.slice ao l.length cap, .int .i64 2, .int .i64 4, .int .i64 4, .func (Fn.func 122) #[] #[]] w fun e w' => e = .returned (.tuple #[.agg ((partsAck l).map (Value.int .i64)).toArray, .bool (isAck l)]) ∧ Below w.heap.size w w' := by
  cases hk : (kindOf l != 2)
  · by_cases h2 : l.length = 5
    · obtain ⟨hl0, hl1, hd⟩ := kindOf_pos hk (by omega)
      obtain ⟨x0, c, q, i, u, rfl⟩ : ∃ x0 c q i u, l = [x0, c, q, i, u] := by
        match l, h2 with | [x0, c, q, i, u], _ => exact ⟨x0, c, q, i, u, rfl⟩
      obtain ⟨b0, off, rfl, hbl, hr0, hc⟩ := hh.at (k := 1) (by simp)
      obtain rfl : x0 = 2 := by simpa using hd
      have hib : isB [2, c, q, i, u] 2 5 = true := rfl
      cases hE : (ackOk c q i u)
      · have e1 : isAck [2, c, q, i, u] = false := by simp only [isAck, hib, Bool.true_and]; exact hE
        rw [partsAck_f e1, e1]
        exact c_decoded_Ack_no b0 off cap c q i u w hh hcap hk hE
      · have e1 : isAck [2, c, q, i, u] = true := by simp only [isAck, hib, Bool.true_and]; exact hE
        have e2 : partsAck [2, c, q, i, u] = [c, q, i, u] := by simp [partsAck, e1]
        rw [e2, e1]
        exact c_decoded_Ack_yes b0 off cap c q i u w hh hcap hk hE (hh.1 _ (by simp)) (hh.1 _ (by simp)) (hh.1 _ (by simp)) (hh.1 _ (by simp))
    · rw [partsAck_f (isAck_len h2), isAck_len h2]
      exact c_decoded_Ack_len ao cap l w hh hk h2
  · rw [partsAck_f (isAck_ne hk), isAck_ne hk]
    exact c_decoded_Ack_bad ao cap l w hh hk
theorem len_partsAck (l : List Int) : ∃ c q i u, partsAck l = [c, q, i, u] := by
  unfold partsAck
  split
  · rename_i h
    have hl : l.length = 5 := by simp [isAck, isB] at h; exact h.1.1
    match l, hl with | [x0, c, q, i, u], _ => exact ⟨c, q, i, u, rfl⟩
  · exact ⟨0, 0, 0, 0, rfl⟩
theorem c_impl_RowAck (ao : Option Addr) (cap : Nat) (l : List Int) (w : World) (hh : IntsR w ao l) (hcap : l.length ≤ cap) :
    Calls Try.prog 67 #[.slice ao l.length cap] w fun e w' => e = .returned (.tuple #[.agg ((partsAck l).map (Value.int .i64)).toArray, .bool (isAck l)]) ∧ Below w.heap.size w w' := by
  have key := c_decoded_Ack ao cap l (w.alloc (.cells #[.int .i64 0, .int .i64 0, .int .i64 0, .int .i64 0] 57)) (hh.below (by (repeat (first | with_reducible exact Below.refl _ _ | ((with_reducible refine bl_alloc ?_ ?_); (focus (first | (simp; done) | (simp; omega) | omega))) | ((with_reducible refine bl_set ?_ ?_); (focus (first | (simp; done) | (simp; omega) | omega))) | ((with_reducible refine bl_later ?_ ?_); (focus (first | (simp; done) | (simp; omega) | omega))) | with_reducible refine bl_drew ?_ | with_reducible refine bl_drewN ?_ | ((with_reducible refine bl_step (by assumption) ?_ ?_); (focus (first | (simp; done) | (simp; omega) | omega))))))) hcap
  obtain ⟨c, q, i, u, hp⟩ := len_partsAck l
  rw [hp] at key ⊢
  simp only [List.map_cons, List.map_nil] at key ⊢
  clear hp
  go_enter Try.func67, Try.ntmps67
  go_wp2_with fail
  refine key.mono ?_
  rintro e w1 ⟨rfl, hb⟩
  have q0 := ((Bx.new w [.int .i64 0, .int .i64 0, .int .i64 0, .int .i64 0] 57).below hb).2
  have q1 := ((Fx.new w [.int .i64 0, .int .i64 0, .int .i64 0, .int .i64 0] 57).below hb).2
  have hz := hb.size
  simp only [World.size_alloc] at hz
  clear key
  go_wp2_with fail
  refine bodyPost_ret (v := .tuple #[.agg #[.int .i64 c, .int .i64 q, .int .i64 i, .int .i64 u], .bool (isAck l)]) (by simp [results, Try.results67, go_sem, *]) rfl ⟨rfl, ?_⟩
  (repeat (first | with_reducible exact Below.refl _ _ | ((with_reducible refine bl_alloc ?_ ?_); (focus (first | (simp; done) | (simp; omega) | omega))) | ((with_reducible refine bl_set ?_ ?_); (focus (first | (simp; done) | (simp; omega) | omega))) | ((with_reducible refine bl_later ?_ ?_); (focus (first | (simp; done) | (simp; omega) | omega))) | with_reducible refine bl_drew ?_ | with_reducible refine bl_drewN ?_ | ((with_reducible refine bl_step (by assumption) ?_ ?_); (focus (first | (simp; done) | (simp; omega) | omega)))))
theorem c_eqAck_same (c q i u : Int) (w : World) : Calls Try.prog 68 #[.agg #[.int .i64 c, .int .i64 q, .int .i64 i, .int .i64 u], .agg #[.int .i64 c, .int .i64 q, .int .i64 i, .int .i64 u]] w fun e w' => e = .returned (.bool true) ∧ Below w.heap.size w w' := by
  go_enter Try.func68, Try.ntmps68
  go_wp2
  go_ret
  exact ⟨rfl, by (repeat (first | with_reducible exact Below.refl _ _ | ((with_reducible refine bl_alloc ?_ ?_); (focus (first | (simp; done) | (simp; omega) | omega))) | ((with_reducible refine bl_set ?_ ?_); (focus (first | (simp; done) | (simp; omega) | omega))) | ((with_reducible refine bl_later ?_ ?_); (focus (first | (simp; done) | (simp; omega) | omega))) | with_reducible refine bl_drew ?_ | with_reducible refine bl_drewN ?_ | ((with_reducible refine bl_step (by assumption) ?_ ?_); (focus (first | (simp; done) | (simp; omega) | omega)))))⟩

end Go.Proofs.Ytpfkfppooeikeaa
