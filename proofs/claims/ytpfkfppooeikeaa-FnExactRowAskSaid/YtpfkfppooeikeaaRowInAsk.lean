/- Walks of functions of the program, printed by a program of the prover. -/
import Derived.Test.YtpfkfppooeikeaaRowOfAsk
import Derived.WalkKit
import Derived.WalkSpells
import Derived.Deep.QuietTactic
import Derived.BigQuiet
import Derived.Deep.Light
import Derived.Lib.Hide
import Derived.Deep.RegionHeld3
namespace Go.Proofs.Ytpfkfppooeikeaa
open Go.ChangeShapes Go.WideShapes Go.ChangeAt Go.RowKit Go.Deep
set_option maxHeartbeats 800000
set_option maxRecDepth 100000
theorem c_decoded_Ask_bad (ao : Option Addr) (cap : Nat) (l : List Int) (w : World) (hh : IntsR w ao l) (hk : (kindOf l != 1) = true) :
    Calls Try.prog 127 #[.slice ao l.length cap, .int .i64 1, .int .i64 7, .int .i64 7, .func (Fn.func 128) #[] #[]] w fun e w' => e = .returned (.tuple #[.agg #[.int .i64 0, .int .i64 0, .int .i64 0, .int .i64 0, .int .i64 0, .int .i64 0, .int .i64 0], .bool false]) ∧ Below w.heap.size w w' := by
  have hm := hh.2.1
  have h' : ∀ W, Below w.heap.size w W → IntsR W ao l := fun W hb => hh.below hb
  go_enter Try.func127, Try.ntmps127
  go_wp2_with (go_at_call 90; refine (c_impl_KindOf _ _ l _ (h' _ (by (repeat (first | with_reducible exact Below.refl _ _ | ((with_reducible refine bl_alloc ?_ ?_); (focus (first | (simp; done) | (simp; omega) | omega))) | ((with_reducible refine bl_set ?_ ?_); (focus (first | (simp; done) | (simp; omega) | omega))) | ((with_reducible refine bl_later ?_ ?_); (focus (first | (simp; done) | (simp; omega) | omega))) | with_reducible refine bl_drew ?_ | with_reducible refine bl_drewN ?_ | ((with_reducible refine bl_step (by assumption) ?_ ?_); (focus (first | (simp; done) | (simp; omega) | omega)))))))).mono ?_; rintro e w' ⟨rfl, rfl⟩)
  refine bodyPost_ret (v := .tuple #[.agg #[.int .i64 0, .int .i64 0, .int .i64 0, .int .i64 0, .int .i64 0, .int .i64 0, .int .i64 0], .bool false]) (by simp [results, Try.results127, go_sem, *]) rfl ⟨rfl, ?_⟩
  (repeat (first | with_reducible exact Below.refl _ _ | ((with_reducible refine bl_alloc ?_ ?_); (focus (first | (simp; done) | (simp; omega) | omega))) | ((with_reducible refine bl_set ?_ ?_); (focus (first | (simp; done) | (simp; omega) | omega))) | ((with_reducible refine bl_later ?_ ?_); (focus (first | (simp; done) | (simp; omega) | omega))) | with_reducible refine bl_drew ?_ | with_reducible refine bl_drewN ?_ | ((with_reducible refine bl_step (by assumption) ?_ ?_); (focus (first | (simp; done) | (simp; omega) | omega)))))
theorem c_decoded_Ask_len (ao : Option Addr) (cap : Nat) (l : List Int) (w : World) (hh : IntsR w ao l) (hk : (kindOf l != 1) = false) (h2 : l.length ≠ 8) :
    Calls Try.prog 127 #[.slice ao l.length cap, .int .i64 1, .int .i64 7, .int .i64 7, .func (Fn.func 128) #[] #[]] w fun e w' => e = .returned (.tuple #[.agg #[.int .i64 0, .int .i64 0, .int .i64 0, .int .i64 0, .int .i64 0, .int .i64 0, .int .i64 0], .bool false]) ∧ Below w.heap.size w w' := by
  have hm := hh.2.1
  obtain ⟨hl0, hl1, hd⟩ := kindOf_pos hk (by omega)
  clear hd
  have h' : ∀ W, Below w.heap.size w W → IntsR W ao l := fun W hb => hh.below hb
  by_cases h1 : l.length < 8
  · have e2 : decide ((l.length : Int) - 1 < 7) = true := by simp; omega
    go_enter Try.func127, Try.ntmps127
    go_wp2_with (go_at_call 90; refine (c_impl_KindOf _ _ l _ (h' _ (by (repeat (first | with_reducible exact Below.refl _ _ | ((with_reducible refine bl_alloc ?_ ?_); (focus (first | (simp; done) | (simp; omega) | omega))) | ((with_reducible refine bl_set ?_ ?_); (focus (first | (simp; done) | (simp; omega) | omega))) | ((with_reducible refine bl_later ?_ ?_); (focus (first | (simp; done) | (simp; omega) | omega))) | with_reducible refine bl_drew ?_ | with_reducible refine bl_drewN ?_ | ((with_reducible refine bl_step (by assumption) ?_ ?_); (focus (first | (simp; done) | (simp; omega) | omega)))))))).mono ?_; rintro e w' ⟨rfl, rfl⟩)
    refine bodyPost_ret (v := .tuple #[.agg #[.int .i64 0, .int .i64 0, .int .i64 0, .int .i64 0, .int .i64 0, .int .i64 0, .int .i64 0], .bool false]) (by simp [results, Try.results127, go_sem, *]) rfl ⟨rfl, ?_⟩
    (repeat (first | with_reducible exact Below.refl _ _ | ((with_reducible refine bl_alloc ?_ ?_); (focus (first | (simp; done) | (simp; omega) | omega))) | ((with_reducible refine bl_set ?_ ?_); (focus (first | (simp; done) | (simp; omega) | omega))) | ((with_reducible refine bl_later ?_ ?_); (focus (first | (simp; done) | (simp; omega) | omega))) | with_reducible refine bl_drew ?_ | with_reducible refine bl_drewN ?_ | ((with_reducible refine bl_step (by assumption) ?_ ?_); (focus (first | (simp; done) | (simp; omega) | omega)))))
  · have e2 : decide ((l.length : Int) - 1 < 7) = false := by simp; omega
    have e3 : decide (7 < (l.length : Int) - 1) = true := by simp; omega
    go_enter Try.func127, Try.ntmps127
    go_wp2_with (go_at_call 90; refine (c_impl_KindOf _ _ l _ (h' _ (by (repeat (first | with_reducible exact Below.refl _ _ | ((with_reducible refine bl_alloc ?_ ?_); (focus (first | (simp; done) | (simp; omega) | omega))) | ((with_reducible refine bl_set ?_ ?_); (focus (first | (simp; done) | (simp; omega) | omega))) | ((with_reducible refine bl_later ?_ ?_); (focus (first | (simp; done) | (simp; omega) | omega))) | with_reducible refine bl_drew ?_ | with_reducible refine bl_drewN ?_ | ((with_reducible refine bl_step (by assumption) ?_ ?_); (focus (first | (simp; done) | (simp; omega) | omega)))))))).mono ?_; rintro e w' ⟨rfl, rfl⟩)
    refine bodyPost_ret (v := .tuple #[.agg #[.int .i64 0, .int .i64 0, .int .i64 0, .int .i64 0, .int .i64 0, .int .i64 0, .int .i64 0], .bool false]) (by simp [results, Try.results127, go_sem, *]) rfl ⟨rfl, ?_⟩
    (repeat (first | with_reducible exact Below.refl _ _ | ((with_reducible refine bl_alloc ?_ ?_); (focus (first | (simp; done) | (simp; omega) | omega))) | ((with_reducible refine bl_set ?_ ?_); (focus (first | (simp; done) | (simp; omega) | omega))) | ((with_reducible refine bl_later ?_ ?_); (focus (first | (simp; done) | (simp; omega) | omega))) | with_reducible refine bl_drew ?_ | with_reducible refine bl_drewN ?_ | ((with_reducible refine bl_step (by assumption) ?_ ?_); (focus (first | (simp; done) | (simp; omega) | omega)))))
theorem isAsk_len {l : List Int} (h : l.length ≠ 8) : isAsk l = false := by simp [isAsk, isB, h]
theorem isAsk_ne {l : List Int} (h : (kindOf l != 1) = true) : isAsk l = false := by
  cases hb : isB l 1 8
  · simp [isAsk, hb]
  · obtain ⟨ix, hi1, hi2⟩ := kindOf_ne h (by omega) (by omega) (n := 8) (by omega) hb
    have hl : l.length = 8 := by simp [isB] at hb; exact hb.1
    match l, hl with
    | [x0, c, s, k, a, b, x, y], _ =>
      obtain rfl : x0 = 1 := by simp [isB] at hb; exact hb
      clear h hb
      simp only [numOk, List.length_cons, List.length_nil, Nat.zero_add, Nat.reduceAdd] at hi1 hi2
      have h01 : ix = 0 ∨ ix = 1 ∨ ix = 2 ∨ ix = 3 ∨ ix = 4 ∨ ix = 5 ∨ ix = 6 ∨ ix = 7 := by omega
      cases hx : isAsk [1, c, s, k, a, b, x, y]
      · rfl
      · exfalso
        simp [isAsk, isB, askOk, opOk, inB] at hx
        rcases h01 with rfl | rfl | rfl | rfl | rfl | rfl | rfl | rfl <;> simp at hi2 <;> (first | omega | (split at hx <;> (first | omega | (split at hx <;> (first | omega | (split at hx <;> (first | omega | (split at hx <;> (first | omega | (split at hx <;> (first | omega | (split at hx <;> omega))))))))))))
theorem partsAsk_f {l : List Int} (h : isAsk l = false) : partsAsk l = [0, 0, 0, 0, 0, 0, 0] := by simp [partsAsk, h]
theorem c_decoded_Ask (ao : Option Addr) (cap : Nat) (l : List Int) (w : World) (hh : IntsR w ao l) (hcap : l.length ≤ cap) :
    Calls Try.prog 127 #[.slice ao l.length cap, .int .i64 1, .int .i64 7, .int .i64 7, .func (Fn.func 128) #[] #[]] w fun e w' => e = .returned (.tuple #[.agg ((partsAsk l).map (Value.int .i64)).toArray, .bool (isAsk l)]) ∧ Below w.heap.size w w' := by
  cases hk : (kindOf l != 1)
  · by_cases h2 : l.length = 8
    · obtain ⟨hl0, hl1, hd⟩ := kindOf_pos hk (by omega)
      obtain ⟨x0, c, s, k, a, b, x, y, rfl⟩ : ∃ x0 c s k a b x y, l = [x0, c, s, k, a, b, x, y] := by
        match l, h2 with | [x0, c, s, k, a, b, x, y], _ => exact ⟨x0, c, s, k, a, b, x, y, rfl⟩
      obtain ⟨b0, off, rfl, hbl, hr0, hc⟩ := hh.at (k := 1) (by simp)
      obtain rfl : x0 = 1 := by simpa using hd
      have hib : isB [1, c, s, k, a, b, x, y] 1 8 = true := rfl
      cases hE : (askOk c s k a b x y)
      · have e1 : isAsk [1, c, s, k, a, b, x, y] = false := by simp only [isAsk, hib, Bool.true_and]; exact hE
        rw [partsAsk_f e1, e1]
        exact c_decoded_Ask_no b0 off cap c s k a b x y w hh hcap hk hE
      · have e1 : isAsk [1, c, s, k, a, b, x, y] = true := by simp only [isAsk, hib, Bool.true_and]; exact hE
        have e2 : partsAsk [1, c, s, k, a, b, x, y] = [c, s, k, a, b, x, y] := by simp [partsAsk, e1]
        rw [e2, e1]
        exact c_decoded_Ask_yes b0 off cap c s k a b x y w hh hcap hk hE (hh.1 _ (by simp)) (hh.1 _ (by simp)) (hh.1 _ (by simp)) (hh.1 _ (by simp)) (hh.1 _ (by simp)) (hh.1 _ (by simp)) (hh.1 _ (by simp))
    · rw [partsAsk_f (isAsk_len h2), isAsk_len h2]
      exact c_decoded_Ask_len ao cap l w hh hk h2
  · rw [partsAsk_f (isAsk_ne hk), isAsk_ne hk]
    exact c_decoded_Ask_bad ao cap l w hh hk
theorem len_partsAsk (l : List Int) : ∃ c s k a b x y, partsAsk l = [c, s, k, a, b, x, y] := by
  unfold partsAsk
  split
  · rename_i h
    have hl : l.length = 8 := by simp [isAsk, isB] at h; exact h.1.1
    match l, hl with | [x0, c, s, k, a, b, x, y], _ => exact ⟨c, s, k, a, b, x, y, rfl⟩
  · exact ⟨0, 0, 0, 0, 0, 0, 0, rfl⟩
theorem c_impl_RowAsk (ao : Option Addr) (cap : Nat) (l : List Int) (w : World) (hh : IntsR w ao l) (hcap : l.length ≤ cap) :
    Calls Try.prog 73 #[.slice ao l.length cap] w fun e w' => e = .returned (.tuple #[.agg ((partsAsk l).map (Value.int .i64)).toArray, .bool (isAsk l)]) ∧ Below w.heap.size w w' := by
  have key := c_decoded_Ask ao cap l (w.alloc (.cells #[.int .i64 0, .int .i64 0, .int .i64 0, .int .i64 0, .int .i64 0, .int .i64 0, .int .i64 0] 86)) (hh.below (by (repeat (first | with_reducible exact Below.refl _ _ | ((with_reducible refine bl_alloc ?_ ?_); (focus (first | (simp; done) | (simp; omega) | omega))) | ((with_reducible refine bl_set ?_ ?_); (focus (first | (simp; done) | (simp; omega) | omega))) | ((with_reducible refine bl_later ?_ ?_); (focus (first | (simp; done) | (simp; omega) | omega))) | with_reducible refine bl_drew ?_ | with_reducible refine bl_drewN ?_ | ((with_reducible refine bl_step (by assumption) ?_ ?_); (focus (first | (simp; done) | (simp; omega) | omega))))))) hcap
  obtain ⟨c, s, k, a, b, x, y, hp⟩ := len_partsAsk l
  rw [hp] at key ⊢
  simp only [List.map_cons, List.map_nil] at key ⊢
  clear hp
  go_enter Try.func73, Try.ntmps73
  go_wp2_with fail
  refine key.mono ?_
  rintro e w1 ⟨rfl, hb⟩
  have q0 := ((Bx.new w [.int .i64 0, .int .i64 0, .int .i64 0, .int .i64 0, .int .i64 0, .int .i64 0, .int .i64 0] 86).below hb).2
  have q1 := ((Fx.new w [.int .i64 0, .int .i64 0, .int .i64 0, .int .i64 0, .int .i64 0, .int .i64 0, .int .i64 0] 86).below hb).2
  have hz := hb.size
  simp only [World.size_alloc] at hz
  clear key
  go_wp2_with fail
  refine bodyPost_ret (v := .tuple #[.agg #[.int .i64 c, .int .i64 s, .int .i64 k, .int .i64 a, .int .i64 b, .int .i64 x, .int .i64 y], .bool (isAsk l)]) (by simp [results, Try.results73, go_sem, *]) rfl ⟨rfl, ?_⟩
  (repeat (first | with_reducible exact Below.refl _ _ | ((with_reducible refine bl_alloc ?_ ?_); (focus (first | (simp; done) | (simp; omega) | omega))) | ((with_reducible refine bl_set ?_ ?_); (focus (first | (simp; done) | (simp; omega) | omega))) | ((with_reducible refine bl_later ?_ ?_); (focus (first | (simp; done) | (simp; omega) | omega))) | with_reducible refine bl_drew ?_ | with_reducible refine bl_drewN ?_ | ((with_reducible refine bl_step (by assumption) ?_ ?_); (focus (first | (simp; done) | (simp; omega) | omega)))))
theorem c_eqAsk_same (c s k a b x y : Int) (w : World) : Calls Try.prog 74 #[.agg #[.int .i64 c, .int .i64 s, .int .i64 k, .int .i64 a, .int .i64 b, .int .i64 x, .int .i64 y], .agg #[.int .i64 c, .int .i64 s, .int .i64 k, .int .i64 a, .int .i64 b, .int .i64 x, .int .i64 y]] w fun e w' => e = .returned (.bool true) ∧ Below w.heap.size w w' := by
  go_enter Try.func74, Try.ntmps74
  go_wp2
  go_ret
  exact ⟨rfl, by (repeat (first | with_reducible exact Below.refl _ _ | ((with_reducible refine bl_alloc ?_ ?_); (focus (first | (simp; done) | (simp; omega) | omega))) | ((with_reducible refine bl_set ?_ ?_); (focus (first | (simp; done) | (simp; omega) | omega))) | ((with_reducible refine bl_later ?_ ?_); (focus (first | (simp; done) | (simp; omega) | omega))) | with_reducible refine bl_drew ?_ | with_reducible refine bl_drewN ?_ | ((with_reducible refine bl_step (by assumption) ?_ ?_); (focus (first | (simp; done) | (simp; omega) | omega)))))⟩

end Go.Proofs.Ytpfkfppooeikeaa
