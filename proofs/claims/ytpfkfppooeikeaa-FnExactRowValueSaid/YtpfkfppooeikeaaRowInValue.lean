/- Walks of functions of the program, printed by a program of the prover. -/
import Derived.Test.YtpfkfppooeikeaaRowOfValue
import Derived.WalkKit
import Derived.WalkSpells
import Derived.Deep.QuietTactic
import Derived.BigQuiet
import Derived.Deep.Light
import Derived.Lib.Hide
import Derived.Deep.RegionHeld3
namespace Go.Proofs.Ytpfkfppooeikeaa
open Go.ChangeShapes Go.WideShapes Go.ChangeAt Go.RowKit Go.Deep
set_option maxHeartbeats 800000
set_option maxRecDepth 100000
theorem c_decoded_Value_bad (ao : Option Addr) (cap : Nat) (l : List Int) (w : World) (hh : IntsR w ao l) (hk : (kindOf l != 7) = true) :
    Calls Try.prog 119 #[.slice ao l.length cap, .int .i64 7, .int .i64 5, .int .i64 5, .func (Fn.func 120) #[] #[]] w fun e w' => e = .returned (.tuple #[.agg #[.int .i64 0, .int .i64 0, .int .i64 0, .int .i64 0, .int .i64 0], .bool false]) ∧ Below w.heap.size w w' := by
  have hm := hh.2.1
  have h' : ∀ W, Below w.heap.size w W → IntsR W ao l := fun W hb => hh.below hb
  go_enter Try.func119, Try.ntmps119
  go_wp2_with (go_at_call 90; refine (c_impl_KindOf _ _ l _ (h' _ (by (repeat (first | with_reducible exact Below.refl _ _ | ((with_reducible refine bl_alloc ?_ ?_); (focus (first | (simp; done) | (simp; omega) | omega))) | ((with_reducible refine bl_set ?_ ?_); (focus (first | (simp; done) | (simp; omega) | omega))) | ((with_reducible refine bl_later ?_ ?_); (focus (first | (simp; done) | (simp; omega) | omega))) | with_reducible refine bl_drew ?_ | with_reducible refine bl_drewN ?_ | ((with_reducible refine bl_step (by assumption) ?_ ?_); (focus (first | (simp; done) | (simp; omega) | omega)))))))).mono ?_; rintro e w' ⟨rfl, rfl⟩)
  refine bodyPost_ret (v := .tuple #[.agg #[.int .i64 0, .int .i64 0, .int .i64 0, .int .i64 0, .int .i64 0], .bool false]) (by simp [results, Try.results119, go_sem, *]) rfl ⟨rfl, ?_⟩
  (repeat (first | with_reducible exact Below.refl _ _ | ((with_reducible refine bl_alloc ?_ ?_); (focus (first | (simp; done) | (simp; omega) | omega))) | ((with_reducible refine bl_set ?_ ?_); (focus (first | (simp; done) | (simp; omega) | omega))) | ((with_reducible refine bl_later ?_ ?_); (focus (first | (simp; done) | (simp; omega) | omega))) | with_reducible refine bl_drew ?_ | with_reducible refine bl_drewN ?_ | ((with_reducible refine bl_step (by assumption) ?_ ?_); (focus (first | (simp; done) | (simp; omega) | omega)))))
theorem c_decoded_Value_len (ao : Option Addr) (cap : Nat) (l : List Int) (w : World) (hh : IntsR w ao l) (hk : (kindOf l != 7) = false) (h2 : l.length ≠ 6) :
    Calls Try.prog 119 #[.slice ao l.length cap, .int .i64 7, .int .i64 5, .int .i64 5, .func (Fn.func 120) #[] #[]] w fun e w' => e = .returned (.tuple #[.agg #[.int .i64 0, .int .i64 0, .int .i64 0, .int .i64 0, .int .i64 0], .bool false]) ∧ Below w.heap.size w w' := by
  have hm := hh.2.1
  obtain ⟨hl0, hl1, hd⟩ := kindOf_pos hk (by omega)
  clear hd
  have h' : ∀ W, Below w.heap.size w W → IntsR W ao l := fun W hb => hh.below hb
  by_cases h1 : l.length < 6
  · have e2 : decide ((l.length : Int) - 1 < 5) = true := by simp; omega
    go_enter Try.func119, Try.ntmps119
    go_wp2_with (go_at_call 90; refine (c_impl_KindOf _ _ l _ (h' _ (by (repeat (first | with_reducible exact Below.refl _ _ | ((with_reducible refine bl_alloc ?_ ?_); (focus (first | (simp; done) | (simp; omega) | omega))) | ((with_reducible refine bl_set ?_ ?_); (focus (first | (simp; done) | (simp; omega) | omega))) | ((with_reducible refine bl_later ?_ ?_); (focus (first | (simp; done) | (simp; omega) | omega))) | with_reducible refine bl_drew ?_ | with_reducible refine bl_drewN ?_ | ((with_reducible refine bl_step (by assumption) ?_ ?_); (focus (first | (simp; done) | (simp; omega) | omega)))))))).mono ?_; rintro e w' ⟨rfl, rfl⟩)
    refine bodyPost_ret (v := .tuple #[.agg #[.int .i64 0, .int .i64 0, .int .i64 0, .int .i64 0, .int .i64 0], .bool false]) (by simp [results, Try.results119, go_sem, *]) rfl ⟨rfl, ?_⟩
    (repeat (first | with_reducible exact Below.refl _ _ | ((with_reducible refine bl_alloc ?_ ?_); (focus (first | (simp; done) | (simp; omega) | omega))) | ((with_reducible refine bl_set ?_ ?_); (focus (first | (simp; done) | (simp; omega) | omega))) | ((with_reducible refine bl_later ?_ ?_); (focus (first | (simp; done) | (simp; omega) | omega))) | with_reducible refine bl_drew ?_ | with_reducible refine bl_drewN ?_ | ((with_reducible refine bl_step (by assumption) ?_ ?_); (focus (first | (simp; done) | (simp; omega) | omega)))))
  · have e2 : decide ((l.length : Int) - 1 < 5) = false := by simp; omega
    have e3 : decide (5 < (l.length : Int) - 1) = true := by simp; omega
    go_enter Try.func119, Try.ntmps119
    go_wp2_with (go_at_call 90; refine (c_impl_KindOf _ _ l _ (h' _ (by (repeat (first | with_reducible exact Below.refl _ _ | ((with_reducible refine bl_alloc ?_ ?_); (focus (first | (simp; done) | (simp; omega) | omega))) | ((with_reducible refine bl_set ?_ ?_); (focus (first | (simp; done) | (simp; omega) | omega))) | ((with_reducible refine bl_later ?_ ?_); (focus (first | (simp; done) | (simp; omega) | omega))) | with_reducible refine bl_drew ?_ | with_reducible refine bl_drewN ?_ | ((with_reducible refine bl_step (by assumption) ?_ ?_); (focus (first | (simp; done) | (simp; omega) | omega)))))))).mono ?_; rintro e w' ⟨rfl, rfl⟩)
    refine bodyPost_ret (v := .tuple #[.agg #[.int .i64 0, .int .i64 0, .int .i64 0, .int .i64 0, .int .i64 0], .bool false]) (by simp [results, Try.results119, go_sem, *]) rfl ⟨rfl, ?_⟩
    (repeat (first | with_reducible exact Below.refl _ _ | ((with_reducible refine bl_alloc ?_ ?_); (focus (first | (simp; done) | (simp; omega) | omega))) | ((with_reducible refine bl_set ?_ ?_); (focus (first | (simp; done) | (simp; omega) | omega))) | ((with_reducible refine bl_later ?_ ?_); (focus (first | (simp; done) | (simp; omega) | omega))) | with_reducible refine bl_drew ?_ | with_reducible refine bl_drewN ?_ | ((with_reducible refine bl_step (by assumption) ?_ ?_); (focus (first | (simp; done) | (simp; omega) | omega)))))
theorem isValue_len {l : List Int} (h : l.length ≠ 6) : isValue l = false := by simp [isValue, isB, h]
theorem isValue_ne {l : List Int} (h : (kindOf l != 7) = true) : isValue l = false := by
  cases hb : isB l 7 6
  · simp [isValue, hb]
  · obtain ⟨ix, hi1, hi2⟩ := kindOf_ne h (by omega) (by omega) (n := 6) (by omega) hb
    have hl : l.length = 6 := by simp [isB] at hb; exact hb.1
    match l, hl with
    | [x0, c, q, i, j, v], _ =>
      obtain rfl : x0 = 7 := by simp [isB] at hb; exact hb
      clear h hb
      simp only [numOk, List.length_cons, List.length_nil, Nat.zero_add, Nat.reduceAdd] at hi1 hi2
      have h01 : ix = 0 ∨ ix = 1 ∨ ix = 2 ∨ ix = 3 ∨ ix = 4 ∨ ix = 5 := by omega
      cases hx : isValue [7, c, q, i, j, v]
      · rfl
      · exfalso
        simp [isValue, isB, valueOk, foundB, inB] at hx
        rcases h01 with rfl | rfl | rfl | rfl | rfl | rfl <;> simp at hi2 <;> first | omega | (split at hx <;> omega)
theorem partsValue_f {l : List Int} (h : isValue l = false) : partsValue l = [0, 0, 0, 0, 0] := by simp [partsValue, h]
theorem c_decoded_Value (ao : Option Addr) (cap : Nat) (l : List Int) (w : World) (hh : IntsR w ao l) (hcap : l.length ≤ cap) :
    Calls Try.prog 119 #[.slice ao l.length cap, .int .i64 7, .int .i64 5, .int .i64 5, .func (Fn.func 120) #[] #[]] w fun e w' => e = .returned (.tuple #[.agg ((partsValue l).map (Value.int .i64)).toArray, .bool (isValue l)]) ∧ Below w.heap.size w w' := by
  cases hk : (kindOf l != 7)
  · by_cases h2 : l.length = 6
    · obtain ⟨hl0, hl1, hd⟩ := kindOf_pos hk (by omega)
      obtain ⟨x0, c, q, i, j, v, rfl⟩ : ∃ x0 c q i j v, l = [x0, c, q, i, j, v] := by
        match l, h2 with | [x0, c, q, i, j, v], _ => exact ⟨x0, c, q, i, j, v, rfl⟩
      obtain ⟨b0, off, rfl, hbl, hr0, hc⟩ := hh.at (k := 1) (by simp)
      obtain rfl : x0 = 7 := by simpa using hd
      have hib : isB [7, c, q, i, j, v] 7 6 = true := rfl
      cases hE : (valueOk c q i j v)
      · have e1 : isValue [7, c, q, i, j, v] = false := by simp only [isValue, hib, Bool.true_and]; exact hE
        rw [partsValue_f e1, e1]
        exact c_decoded_Value_no b0 off cap c q i j v w hh hcap hk hE
      · have e1 : isValue [7, c, q, i, j, v] = true := by simp only [isValue, hib, Bool.true_and]; exact hE
        have e2 : partsValue [7, c, q, i, j, v] = [c, q, i, j, v] := by simp [partsValue, e1]
        rw [e2, e1]
        exact c_decoded_Value_yes b0 off cap c q i j v w hh hcap hk hE (hh.1 _ (by simp)) (hh.1 _ (by simp)) (hh.1 _ (by simp)) (hh.1 _ (by simp)) (hh.1 _ (by simp))
    · rw [partsValue_f (isValue_len h2), isValue_len h2]
      exact c_decoded_Value_len ao cap l w hh hk h2
  · rw [partsValue_f (isValue_ne hk), isValue_ne hk]
    exact c_decoded_Value_bad ao cap l w hh hk
theorem len_partsValue (l : List Int) : ∃ c q i j v, partsValue l = [c, q, i, j, v] := by
  unfold partsValue
  split
  · rename_i h
    have hl : l.length = 6 := by simp [isValue, isB] at h; exact h.1.1
    match l, hl with | [x0, c, q, i, j, v], _ => exact ⟨c, q, i, j, v, rfl⟩
  · exact ⟨0, 0, 0, 0, 0, rfl⟩
theorem c_impl_RowValue (ao : Option Addr) (cap : Nat) (l : List Int) (w : World) (hh : IntsR w ao l) (hcap : l.length ≤ cap) :
    Calls Try.prog 64 #[.slice ao l.length cap] w fun e w' => e = .returned (.tuple #[.agg ((partsValue l).map (Value.int .i64)).toArray, .bool (isValue l)]) ∧ Below w.heap.size w w' := by
  have key := c_decoded_Value ao cap l (w.alloc (.cells #[.int .i64 0, .int .i64 0, .int .i64 0, .int .i64 0, .int .i64 0] 51)) (hh.below (by (repeat (first | with_reducible exact Below.refl _ _ | ((with_reducible refine bl_alloc ?_ ?_); (focus (first | (simp; done) | (simp; omega) | omega))) | ((with_reducible refine bl_set ?_ ?_); (focus (first | (simp; done) | (simp; omega) | omega))) | ((with_reducible refine bl_later ?_ ?_); (focus (first | (simp; done) | (simp; omega) | omega))) | with_reducible refine bl_drew ?_ | with_reducible refine bl_drewN ?_ | ((with_reducible refine bl_step (by assumption) ?_ ?_); (focus (first | (simp; done) | (simp; omega) | omega))))))) hcap
  obtain ⟨c, q, i, j, v, hp⟩ := len_partsValue l
  rw [hp] at key ⊢
  simp only [List.map_cons, List.map_nil] at key ⊢
  clear hp
  go_enter Try.func64, Try.ntmps64
  go_wp2_with fail
  refine key.mono ?_
  rintro e w1 ⟨rfl, hb⟩
  have q0 := ((Bx.new w [.int .i64 0, .int .i64 0, .int .i64 0, .int .i64 0, .int .i64 0] 51).below hb).2
  have q1 := ((Fx.new w [.int .i64 0, .int .i64 0, .int .i64 0, .int .i64 0, .int .i64 0] 51).below hb).2
  have hz := hb.size
  simp only [World.size_alloc] at hz
  clear key
  go_wp2_with fail
  refine bodyPost_ret (v := .tuple #[.agg #[.int .i64 c, .int .i64 q, .int .i64 i, .int .i64 j, .int .i64 v], .bool (isValue l)]) (by simp [results, Try.results64, go_sem, *]) rfl ⟨rfl, ?_⟩
  (repeat (first | with_reducible exact Below.refl _ _ | ((with_reducible refine bl_alloc ?_ ?_); (focus (first | (simp; done) | (simp; omega) | omega))) | ((with_reducible refine bl_set ?_ ?_); (focus (first | (simp; done) | (simp; omega) | omega))) | ((with_reducible refine bl_later ?_ ?_); (focus (first | (simp; done) | (simp; omega) | omega))) | with_reducible refine bl_drew ?_ | with_reducible refine bl_drewN ?_ | ((with_reducible refine bl_step (by assumption) ?_ ?_); (focus (first | (simp; done) | (simp; omega) | omega)))))
theorem c_eqValue_same (c q i j v : Int) (w : World) : Calls Try.prog 65 #[.agg #[.int .i64 c, .int .i64 q, .int .i64 i, .int .i64 j, .int .i64 v], .agg #[.int .i64 c, .int .i64 q, .int .i64 i, .int .i64 j, .int .i64 v]] w fun e w' => e = .returned (.bool true) ∧ Below w.heap.size w w' := by
  go_enter Try.func65, Try.ntmps65
  go_wp2
  go_ret
  exact ⟨rfl, by (repeat (first | with_reducible exact Below.refl _ _ | ((with_reducible refine bl_alloc ?_ ?_); (focus (first | (simp; done) | (simp; omega) | omega))) | ((with_reducible refine bl_set ?_ ?_); (focus (first | (simp; done) | (simp; omega) | omega))) | ((with_reducible refine bl_later ?_ ?_); (focus (first | (simp; done) | (simp; omega) | omega))) | with_reducible refine bl_drew ?_ | with_reducible refine bl_drewN ?_ | ((with_reducible refine bl_step (by assumption) ?_ ?_); (focus (first | (simp; done) | (simp; omega) | omega)))))⟩

end Go.Proofs.Ytpfkfppooeikeaa
