/- Walks of functions of the program, printed by a program of the prover. -/
import Derived.Test.YtpfkfppooeikeaaRowOfRead
import Derived.WalkKit
import Derived.WalkSpells
import Derived.Deep.QuietTactic
import Derived.BigQuiet
import Derived.Deep.Light
import Derived.Lib.Hide
import Derived.Deep.RegionHeld3
namespace Go.Proofs.Ytpfkfppooeikeaa
open Go.ChangeShapes Go.WideShapes Go.ChangeAt Go.RowKit Go.Deep
set_option maxHeartbeats 800000
set_option maxRecDepth 100000
theorem c_decoded_Read_bad (ao : Option Addr) (cap : Nat) (l : List Int) (w : World) (hh : IntsR w ao l) (hk : (kindOf l != 6) = true) :
    Calls Try.prog 117 #[.slice ao l.length cap, .int .i64 6, .int .i64 4, .int .i64 4, .func (Fn.func 118) #[] #[]] w fun e w' => e = .returned (.tuple #[.agg #[.int .i64 0, .int .i64 0, .int .i64 0, .int .i64 0], .bool false]) ∧ Below w.heap.size w w' := by
  have hm := hh.2.1
  have h' : ∀ W, Below w.heap.size w W → IntsR W ao l := fun W hb => hh.below hb
  go_enter Try.func117, Try.ntmps117
  go_wp2_with (go_at_call 90; refine (c_impl_KindOf _ _ l _ (h' _ (by (repeat (first | with_reducible exact Below.refl _ _ | ((with_reducible refine bl_alloc ?_ ?_); (focus (first | (simp; done) | (simp; omega) | omega))) | ((with_reducible refine bl_set ?_ ?_); (focus (first | (simp; done) | (simp; omega) | omega))) | ((with_reducible refine bl_later ?_ ?_); (focus (first | (simp; done) | (simp; omega) | omega))) | with_reducible refine bl_drew ?_ | with_reducible refine bl_drewN ?_ | ((with_reducible refine bl_step (by assumption) ?_ ?_); (focus (first | (simp; done) | (simp; omega) | omega)))))))).mono ?_; rintro e w' ⟨rfl, rfl⟩)
  refine bodyPost_ret (v := .tuple #[.agg #[.int .i64 0, .int .i64 0, .int .i64 0, .int .i64 0], .bool false]) (by simp [results, Try.results117, go_sem, *]) rfl ⟨rfl, ?_⟩
  (repeat (first | with_reducible exact Below.refl _ _ | ((with_reducible refine bl_alloc ?_ ?_); (focus (first | (simp; done) | (simp; omega) | omega))) | ((with_reducible refine bl_set ?_ ?_); (focus (first | (simp; done) | (simp; omega) | omega))) | ((with_reducible refine bl_later ?_ ?_); (focus (first | (simp; done) | (simp; omega) | omega))) | with_reducible refine bl_drew ?_ | with_reducible refine bl_drewN ?_ | ((with_reducible refine bl_step (by assumption) ?_ ?_); (focus (first | (simp; done) | (simp; omega) | omega)))))
theorem c_decoded_Read_len (ao : Option Addr) (cap : Nat) (l : List Int) (w : World) (hh : IntsR w ao l) (hk : (kindOf l != 6) = false) (h2 : l.length ≠ 5) :
    Calls Try.prog 117 #[.slice ao l.length cap, .int .i64 6, .int .i64 4, .int .i64 4, .func (Fn.func 118) #[] #[]] w fun e w' => e = .returned (.tuple #[.agg #[.int .i64 0, .int .i64 0, .int .i64 0, .int .i64 0], .bool false]) ∧ Below w.heap.size w w' := by
  have hm := hh.2.1
  obtain ⟨hl0, hl1, hd⟩ := kindOf_pos hk (by omega)
  clear hd
  have h' : ∀ W, Below w.heap.size w W → IntsR W ao l := fun W hb => hh.below hb
  by_cases h1 : l.length < 5
  · have e2 : decide ((l.length : Int) - 1 < 4) = true := by simp; omega
    go_enter Try.func117, Try.ntmps117
    go_wp2_with (go_at_call 90; refine (c_impl_KindOf _ _ l _ (h' _ (by (repeat (first | with_reducible exact Below.refl _ _ | ((with_reducible refine bl_alloc ?_ ?_); (focus (first | (simp; done) | (simp; omega) | omega))) | ((with_reducible refine bl_set ?_ ?_); (focus (first | (simp; done) | (simp; omega) | omega))) | ((with_reducible refine bl_later ?_ ?_); (focus (first | (simp; done) | (simp; omega) | omega))) | with_reducible refine bl_drew ?_ | with_reducible refine bl_drewN ?_ | ((with_reducible refine bl_step (by assumption) ?_ ?_); (focus (first | (simp; done) | (simp; omega) | omega)))))))).mono ?_; rintro e w' ⟨rfl, rfl⟩)
    refine bodyPost_ret (v := .tuple #[.agg #[.int .i64 0, .int .i64 0, .int .i64 0, .int .i64 0], .bool false]) (by simp [results, Try.results117, go_sem, *]) rfl ⟨rfl, ?_⟩
    (repeat (first | with_reducible exact Below.refl _ _ | ((with_reducible refine bl_alloc ?_ ?_); (focus (first | (simp; done) | (simp; omega) | omega))) | ((with_reducible refine bl_set ?_ ?_); (focus (first | (simp; done) | (simp; omega) | omega))) | ((with_reducible refine bl_later ?_ ?_); (focus (first | (simp; done) | (simp; omega) | omega))) | with_reducible refine bl_drew ?_ | with_reducible refine bl_drewN ?_ | ((with_reducible refine bl_step (by assumption) ?_ ?_); (focus (first | (simp; done) | (simp; omega) | omega)))))
  · have e2 : decide ((l.length : Int) - 1 < 4) = false := by simp; omega
    have e3 : decide (4 < (l.length : Int) - 1) = true := by simp; omega
    go_enter Try.func117, Try.ntmps117
    go_wp2_with (go_at_call 90; refine (c_impl_KindOf _ _ l _ (h' _ (by (repeat (first | with_reducible exact Below.refl _ _ | ((with_reducible refine bl_alloc ?_ ?_); (focus (first | (simp; done) | (simp; omega) | omega))) | ((with_reducible refine bl_set ?_ ?_); (focus (first | (simp; done) | (simp; omega) | omega))) | ((with_reducible refine bl_later ?_ ?_); (focus (first | (simp; done) | (simp; omega) | omega))) | with_reducible refine bl_drew ?_ | with_reducible refine bl_drewN ?_ | ((with_reducible refine bl_step (by assumption) ?_ ?_); (focus (first | (simp; done) | (simp; omega) | omega)))))))).mono ?_; rintro e w' ⟨rfl, rfl⟩)
    refine bodyPost_ret (v := .tuple #[.agg #[.int .i64 0, .int .i64 0, .int .i64 0, .int .i64 0], .bool false]) (by simp [results, Try.results117, go_sem, *]) rfl ⟨rfl, ?_⟩
    (repeat (first | with_reducible exact Below.refl _ _ | ((with_reducible refine bl_alloc ?_ ?_); (focus (first | (simp; done) | (simp; omega) | omega))) | ((with_reducible refine bl_set ?_ ?_); (focus (first | (simp; done) | (simp; omega) | omega))) | ((with_reducible refine bl_later ?_ ?_); (focus (first | (simp; done) | (simp; omega) | omega))) | with_reducible refine bl_drew ?_ | with_reducible refine bl_drewN ?_ | ((with_reducible refine bl_step (by assumption) ?_ ?_); (focus (first | (simp; done) | (simp; omega) | omega)))))
theorem isRead_len {l : List Int} (h : l.length ≠ 5) : isRead l = false := by simp [isRead, isB, h]
theorem isRead_ne {l : List Int} (h : (kindOf l != 6) = true) : isRead l = false := by
  cases hb : isB l 6 5
  · simp [isRead, hb]
  · obtain ⟨ix, hi1, hi2⟩ := kindOf_ne h (by omega) (by omega) (n := 5) (by omega) hb
    have hl : l.length = 5 := by simp [isB] at hb; exact hb.1
    match l, hl with
    | [x0, a, b, c, d], _ =>
      obtain rfl : x0 = 6 := by simp [isB] at hb; exact hb
      clear h hb
      simp only [numOk, List.length_cons, List.length_nil, Nat.zero_add, Nat.reduceAdd] at hi1 hi2
      have h01 : ix = 0 ∨ ix = 1 ∨ ix = 2 ∨ ix = 3 ∨ ix = 4 := by omega
      cases hx : isRead [6, a, b, c, d]
      · rfl
      · exfalso
        simp [isRead, isB, inB] at hx
        rcases h01 with rfl | rfl | rfl | rfl | rfl <;> simp at hi2 <;> first | omega | (split at hx <;> omega)
theorem partsRead_f {l : List Int} (h : isRead l = false) : partsRead l = [0, 0, 0, 0] := by simp [partsRead, h]
theorem c_decoded_Read (ao : Option Addr) (cap : Nat) (l : List Int) (w : World) (hh : IntsR w ao l) (hcap : l.length ≤ cap) :
    Calls Try.prog 117 #[.slice ao l.length cap, .int .i64 6, .int .i64 4, .int .i64 4, .func (Fn.func 118) #[] #[]] w fun e w' => e = .returned (.tuple #[.agg ((partsRead l).map (Value.int .i64)).toArray, .bool (isRead l)]) ∧ Below w.heap.size w w' := by
  cases hk : (kindOf l != 6)
  · by_cases h2 : l.length = 5
    · obtain ⟨hl0, hl1, hd⟩ := kindOf_pos hk (by omega)
      obtain ⟨x0, a, b, c, d, rfl⟩ : ∃ x0 a b c d, l = [x0, a, b, c, d] := by
        match l, h2 with | [x0, a, b, c, d], _ => exact ⟨x0, a, b, c, d, rfl⟩
      obtain ⟨b0, off, rfl, hbl, hr0, hc⟩ := hh.at (k := 1) (by simp)
      obtain rfl : x0 = 6 := by simpa using hd
      have hib : isB [6, a, b, c, d] 6 5 = true := rfl
      cases hE : (inB a 2 5 && inB b 1 2000 && inB c 0 9 && inB d 0 2000)
      · have e1 : isRead [6, a, b, c, d] = false := by simp only [isRead, hib, Bool.true_and]; exact hE
        rw [partsRead_f e1, e1]
        exact c_decoded_Read_no b0 off cap a b c d w hh hcap hk hE
      · have e1 : isRead [6, a, b, c, d] = true := by simp only [isRead, hib, Bool.true_and]; exact hE
        have e2 : partsRead [6, a, b, c, d] = [a, b, c, d] := by simp [partsRead, e1]
        rw [e2, e1]
        exact c_decoded_Read_yes b0 off cap a b c d w hh hcap hk hE (hh.1 _ (by simp)) (hh.1 _ (by simp)) (hh.1 _ (by simp)) (hh.1 _ (by simp))
    · rw [partsRead_f (isRead_len h2), isRead_len h2]
      exact c_decoded_Read_len ao cap l w hh hk h2
  · rw [partsRead_f (isRead_ne hk), isRead_ne hk]
    exact c_decoded_Read_bad ao cap l w hh hk
theorem len_partsRead (l : List Int) : ∃ a b c d, partsRead l = [a, b, c, d] := by
  unfold partsRead
  split
  · rename_i h
    have hl : l.length = 5 := by simp [isRead, isB] at h; exact h.1.1
    match l, hl with | [x0, a, b, c, d], _ => exact ⟨a, b, c, d, rfl⟩
  · exact ⟨0, 0, 0, 0, rfl⟩
theorem c_impl_RowRead (ao : Option Addr) (cap : Nat) (l : List Int) (w : World) (hh : IntsR w ao l) (hcap : l.length ≤ cap) :
    Calls Try.prog 61 #[.slice ao l.length cap] w fun e w' => e = .returned (.tuple #[.agg ((partsRead l).map (Value.int .i64)).toArray, .bool (isRead l)]) ∧ Below w.heap.size w w' := by
  have key := c_decoded_Read ao cap l (w.alloc (.cells #[.int .i64 0, .int .i64 0, .int .i64 0, .int .i64 0] 34)) (hh.below (by (repeat (first | with_reducible exact Below.refl _ _ | ((with_reducible refine bl_alloc ?_ ?_); (focus (first | (simp; done) | (simp; omega) | omega))) | ((with_reducible refine bl_set ?_ ?_); (focus (first | (simp; done) | (simp; omega) | omega))) | ((with_reducible refine bl_later ?_ ?_); (focus (first | (simp; done) | (simp; omega) | omega))) | with_reducible refine bl_drew ?_ | with_reducible refine bl_drewN ?_ | ((with_reducible refine bl_step (by assumption) ?_ ?_); (focus (first | (simp; done) | (simp; omega) | omega))))))) hcap
  obtain ⟨a, b, c, d, hp⟩ := len_partsRead l
  rw [hp] at key ⊢
  simp only [List.map_cons, List.map_nil] at key ⊢
  clear hp
  go_enter Try.func61, Try.ntmps61
  go_wp2_with fail
  refine key.mono ?_
  rintro e w1 ⟨rfl, hb⟩
  have q0 := ((Bx.new w [.int .i64 0, .int .i64 0, .int .i64 0, .int .i64 0] 34).below hb).2
  have q1 := ((Fx.new w [.int .i64 0, .int .i64 0, .int .i64 0, .int .i64 0] 34).below hb).2
  have hz := hb.size
  simp only [World.size_alloc] at hz
  clear key
  go_wp2_with fail
  refine bodyPost_ret (v := .tuple #[.agg #[.int .i64 a, .int .i64 b, .int .i64 c, .int .i64 d], .bool (isRead l)]) (by simp [results, Try.results61, go_sem, *]) rfl ⟨rfl, ?_⟩
  (repeat (first | with_reducible exact Below.refl _ _ | ((with_reducible refine bl_alloc ?_ ?_); (focus (first | (simp; done) | (simp; omega) | omega))) | ((with_reducible refine bl_set ?_ ?_); (focus (first | (simp; done) | (simp; omega) | omega))) | ((with_reducible refine bl_later ?_ ?_); (focus (first | (simp; done) | (simp; omega) | omega))) | with_reducible refine bl_drew ?_ | with_reducible refine bl_drewN ?_ | ((with_reducible refine bl_step (by assumption) ?_ ?_); (focus (first | (simp; done) | (simp; omega) | omega)))))
theorem c_eqRead_same (a b c d : Int) (w : World) : Calls Try.prog 62 #[.agg #[.int .i64 a, .int .i64 b, .int .i64 c, .int .i64 d], .agg #[.int .i64 a, .int .i64 b, .int .i64 c, .int .i64 d]] w fun e w' => e = .returned (.bool true) ∧ Below w.heap.size w w' := by
  go_enter Try.func62, Try.ntmps62
  go_wp2
  go_ret
  exact ⟨rfl, by (repeat (first | with_reducible exact Below.refl _ _ | ((with_reducible refine bl_alloc ?_ ?_); (focus (first | (simp; done) | (simp; omega) | omega))) | ((with_reducible refine bl_set ?_ ?_); (focus (first | (simp; done) | (simp; omega) | omega))) | ((with_reducible refine bl_later ?_ ?_); (focus (first | (simp; done) | (simp; omega) | omega))) | with_reducible refine bl_drew ?_ | with_reducible refine bl_drewN ?_ | ((with_reducible refine bl_step (by assumption) ?_ ?_); (focus (first | (simp; done) | (simp; omega) | omega)))))⟩

end Go.Proofs.Ytpfkfppooeikeaa
