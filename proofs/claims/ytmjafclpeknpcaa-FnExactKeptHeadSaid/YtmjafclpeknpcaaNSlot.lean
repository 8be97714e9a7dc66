/- Walks of functions of the program, printed by a program of the prover. -/
import Derived.Test.YtmjafclpeknpcaaNBothS
import Derived.Test.YtmjafclpeknpcaaNums
import Derived.WalkKit
import Derived.WalkSpells
import Derived.Deep.QuietTactic
import Derived.BigQuiet
import Derived.Deep.Light
import Derived.Lib.Hide
import Derived.IntWalk
namespace Go.Proofs.Ytmjafclpeknpcaa
open Go.ChangeShapes Go.WideShapes Go.ChangeAt Go.RowKit Go.Deep
set_option maxHeartbeats 1600000
set_option maxRecDepth 100000

def slotOf (i : Int) : Int := if inB i 1 2000 then 2 + i % 20 else -1
theorem slotOf_y {i : Int} (h : inB i 1 2000 = true) : slotOf i = 2 + i % 20 := by unfold slotOf; rw [h]; rfl
theorem slotOf_n {i : Int} (h : inB i 1 2000 = false) : slotOf i = -1 := by unfold slotOf; rw [h]; rfl
theorem c_impl_slotOf (i : Int) (w : World) (h : inB i 1 2000 = true) : Calls Try.prog 89 #[.int .i64 i] w fun e w' => e = .returned (.int .i64 (slotOf i)) ∧ w = w' := by
  have Hs := Lib.hid (slotOf_y h)
  simp only [inB, Bool.and_eq_true, decide_eq_true_eq] at h
  obtain ⟨h1, h2⟩ := h
  have h0 : 0 ≤ i := by omega
  go_enter Try.func89, Try.ntmps89
  go_wp2_with fail
  go_ret
  exact ⟨by rw [Hs.out]; rfl, rfl⟩
theorem c_spec_SlotOf (i : Int) (w : World) : Calls Try.prog 34 #[.int .i64 i] w fun e w' => e = .returned (.int .i64 (slotOf i)) ∧ w = w' := by
  cases h : inB i 1 2000
  · have Hs := Lib.hid (slotOf_n h)
    go_enter Try.func34, Try.ntmps34
    go_wp2_with fail
    refine (c_spec_l7Index i _).mono ?_
    rw [h]
    rintro e w' ⟨rfl, rfl⟩
    go_wp2_with fail
    go_ret
    exact ⟨by rw [Hs.out]; rfl, rfl⟩
  · have Hs := Lib.hid (slotOf_y h)
    have h' := h
    simp only [inB, Bool.and_eq_true, decide_eq_true_eq] at h'
    obtain ⟨h1, h2⟩ := h'
    have h0 : 0 ≤ i := by omega
    have Hh := Lib.hid h
    clear h
    go_enter Try.func34, Try.ntmps34
    go_wp2_with fail
    refine (c_spec_l7Index i _).mono ?_
    rw [Hh.out]
    rintro e w' ⟨rfl, rfl⟩
    go_wp2_with fail
    go_ret
    exact ⟨by rw [Hs.out]; rfl, rfl⟩
theorem c_impl_SlotOf (i : Int) (w : World) : Calls Try.prog 39 #[.int .i64 i] w fun e w' => e = .returned (.int .i64 (slotOf i)) ∧ w = w' := by
  cases h : inB i 1 2000
  · have Hs := Lib.hid (slotOf_n h)
    go_enter Try.func39, Try.ntmps39
    go_wp2_with fail
    refine (c_impl_indexOk i _).mono ?_
    rw [h]
    rintro e w' ⟨rfl, rfl⟩
    go_wp2_with fail
    go_ret
    exact ⟨by rw [Hs.out]; rfl, rfl⟩
  · have Hs := Lib.hid (slotOf_y h)
    have h' := h
    simp only [inB, Bool.and_eq_true, decide_eq_true_eq] at h'
    obtain ⟨h1, h2⟩ := h'
    have h0 : 0 ≤ i := by omega
    have Hh := Lib.hid h
    clear h
    go_enter Try.func39, Try.ntmps39
    go_wp2_with fail
    refine (c_impl_indexOk i _).mono ?_
    rw [Hh.out]
    rintro e w' ⟨rfl, rfl⟩
    go_wp2_with fail
    refine (c_impl_slotOf i _ Hh.out).mono ?_
    rintro e w' ⟨rfl, rfl⟩
    go_wp2_with fail
    go_ret
    exact ⟨rfl, rfl⟩
theorem c_spec_SlotRow_y (i t c s k a b x y : Int) (w : World) (yi : inI64 i) (yt : inI64 t) (yc : inI64 c) (ys : inI64 s) (yk : inI64 k) (ya : inI64 a) (yb : inI64 b) (yx : inI64 x) (yy : inI64 y) (hE : entryOk i t c s k a b x y = true) : Calls Try.prog 35 #[.agg #[.int .i64 i, .int .i64 t, .int .i64 c, .int .i64 s, .int .i64 k, .int .i64 a, .int .i64 b, .int .i64 x, .int .i64 y]] w (RetI w 2 [i, t, c, s, k, a, b, x, y, i, i]) := by
  obtain ⟨i0, hi, hz0, hz1, hz2⟩ := info_parts info_int64
  have HE := Lib.hid hE
  clear hE
  go_enter Try.func35, Try.ntmps35
  go_wp2_with fail
  refine (c_spec_EntryOk i t c s k a b x y _).mono ?_
  rw [HE.out]
  rintro e w1 ⟨rfl, hb1⟩
  have hz1' := hb1.size
  simp only [World.size_alloc] at hz1'
  have hca0 := fun (o : Nat) => hb1.cell (p := ⟨w.heap.size, o, none⟩) (by (first | (simp; done) | (simp; omega) | omega))
  have hfa0 := fun (o : Nat) => hb1.frozen (p := ⟨w.heap.size, o, none⟩) (by (first | (simp; done) | (simp; omega) | omega))
  have HB1 : Hid (Below w.heap.size w w1) := by unfold Hid; (repeat (first | with_reducible exact Below.refl _ _ | ((with_reducible refine bl_alloc ?_ ?_); (focus (first | (simp; done) | (simp; omega) | omega))) | ((with_reducible refine bl_set ?_ ?_); (focus (first | (simp; done) | (simp; omega) | omega))) | ((with_reducible refine bl_later ?_ ?_); (focus (first | (simp; done) | (simp; omega) | omega))) | with_reducible refine bl_drew ?_ | with_reducible refine bl_drewN ?_ | ((with_reducible refine bl_step (by assumption) ?_ ?_); (focus (first | (simp; done) | (simp; omega) | omega)))))
  have hl0 : w.heap.size < w1.heap.size := by omega
  go_wp2_with fail
  refine restK_begin [7] (by kernel_rfl) ?_
  refine restK_take (v := ?_) 0 rfl (by kernel_rfl) (by kernel_rfl) (by kernel_rfl) (by kernel_rfl) (by kernel_rfl) (by kernel_rfl) (fun _ _ _ h => h) (by rfl) ?_ ?_
  rotate_left
  · intro w9 h9; try dsimp only at h9
    obtain ⟨x9, rfl⟩ := later_of h9
    go_simp; try with_reducible rfl
  try simp only [Act.put, List.setIfInBounds_toArray, List.set_cons_zero, List.set_cons_succ]
  refine restK_take (v := ?_) 2 rfl (by kernel_rfl) (by kernel_rfl) (by kernel_rfl) (by kernel_rfl) (by kernel_rfl) (by kernel_rfl) (fun _ _ _ h => h) (by rfl) ?_ ?_
  rotate_left
  · intro w9 h9; try dsimp only at h9
    obtain ⟨x9, rfl⟩ := later_of h9
    go_simp; try with_reducible rfl
  try simp only [Act.put, List.setIfInBounds_toArray, List.set_cons_zero, List.set_cons_succ]
  refine restK_take (v := ?_) 3 rfl (by kernel_rfl) (by kernel_rfl) (by kernel_rfl) (by kernel_rfl) (by kernel_rfl) (by kernel_rfl) (fun _ _ _ h => h) (by rfl) ?_ ?_
  rotate_left
  · intro w9 h9; try dsimp only at h9
    obtain ⟨x9, rfl⟩ := later_of h9
    go_simp; try with_reducible rfl
  try simp only [Act.put, List.setIfInBounds_toArray, List.set_cons_zero, List.set_cons_succ]
  refine restK_take (v := ?_) 4 rfl (by kernel_rfl) (by kernel_rfl) (by kernel_rfl) (by kernel_rfl) (by kernel_rfl) (by kernel_rfl) (fun _ _ _ h => h) (by rfl) ?_ ?_
  rotate_left
  · intro w9 h9; try dsimp only at h9
    obtain ⟨x9, rfl⟩ := later_of h9
    go_simp; try with_reducible rfl
  try simp only [Act.put, List.setIfInBounds_toArray, List.set_cons_zero, List.set_cons_succ]
  refine restK_take (v := ?_) 5 rfl (by kernel_rfl) (by kernel_rfl) (by kernel_rfl) (by kernel_rfl) (by kernel_rfl) (by kernel_rfl) (fun _ _ _ h => h) (by rfl) ?_ ?_
  rotate_left
  · intro w9 h9; try dsimp only at h9
    obtain ⟨x9, rfl⟩ := later_of h9
    go_simp; try with_reducible rfl
  try simp only [Act.put, List.setIfInBounds_toArray, List.set_cons_zero, List.set_cons_succ]
  refine restK_two 1 6 rfl rfl (by kernel_rfl) (by rfl) (by rfl) (fun hS K hK => ?_) (fun hS K hK => ?_)
  · skip
    go_wp2_with fail
    refine (c_spec_EntryRow i t c s k a b x y _ yi yt yc ys yk ya yb yx yy HE.out).mono ?_
    rintro e w5 ⟨a5, c5, rfl, ho5, hb5⟩
    have hS5 := bl_step hb5 hS.size hS
    have hz5 := hb5.size
    have hz4 := hS5.size
    simp only [World.size_drew] at hz5 ho5
    have Ho5 := Lib.hid ho5
    clear ho5
    refine hK.out _ _ (hS5) ?_
    try simp only [Act.put, List.setIfInBounds_toArray, List.set_cons_zero, List.set_cons_succ]
    clear hK K hS
    clear hb5
    refine restK_alone 6 rfl (by kernel_rfl) (by rfl) (fun hS K hK => ?_)
    go_wp2_with fail
    have hS6 := hS.alloc hS.size (.cells (([i, i] : List Int).map (Value.int .i64)).toArray 2)
    have hl := (owns_lit w5 0 2 [i, i] (Nat.zero_le _) (by simp) (by simp [yi])).read
    have Hl := Lib.hid hl
    clear hl
    replace Ho5 := Lib.hid (Ho5.out.below ((Below.refl _ _).alloc (Nat.le_refl _) (.cells (([i, i] : List Int).map (Value.int .i64)).toArray 2)))
    refine hK.out _ _ (hS6) ?_
    try simp only [Act.put, List.setIfInBounds_toArray, List.set_cons_zero, List.set_cons_succ]
    clear hK K hS
    refine restK_break 7 rfl (by kernel_rfl) (by rfl) (by kernel_rfl) (fun hS K hK => ?_)
    have hBw : Below w.heap.size w _ := bl_step hS (by (first | (simp; done) | (simp; omega) | omega)) HB1.out
    have Hap := Lib.hid Ho5.out.2.2.lt
    have hz9 := hS.size
    refine wpo_append_ints _ _ _ (by rfl) w1.heap.size 2 i0 Try.underlying85 hi hz0 hz1 hz2 _ _ _ _ [i, t, c, s, k, a, b, x, y] [i, i] (by rfl) (IntsO.lower Ho5.out (by (first | (simp; done) | (simp; omega) | omega))) (by rfl) Hl.out (by simp) (by (first | (simp; done) | (simp; omega) | omega)) (fun a6 c6 w6 ho6 hg6 => ?_)
    have hB6 := hBw.grown hg6 (by have := hBw.size; omega) (fun q hq => by have := (Hap.out q hq).1; (try simp at this); have := HB1.out.size; omega)
    clear hBw Hap hz9
    refine hK.out _ _ trivial ?_
    try simp only [Act.put, List.setIfInBounds_toArray, List.set_cons_zero, List.set_cons_succ]
    clear hK K hS
    refine rest_take (v := ?_) 8 rfl (by kernel_rfl) (by kernel_rfl) (by kernel_rfl) (fun _ _ _ h => h) (by rfl) ?_ ?_
    rotate_left
    · intro w9; go_simp; try with_reducible rfl
    try simp only [Act.put, List.setIfInBounds_toArray, List.set_cons_zero, List.set_cons_succ]
    refine rest_done (by kernel_rfl) ?_
    go_wp2_with fail
    go_ret
    exact ⟨a6, c6, rfl, IntsO.lower ho6 HB1.out.size, hB6⟩
  · skip
    go_wp2_with fail
    have hS6 := hS.alloc hS.size (.cells (([i, i] : List Int).map (Value.int .i64)).toArray 2)
    have hl := (owns_lit w1.drew 0 2 [i, i] (Nat.zero_le _) (by simp) (by simp [yi])).read
    simp only [World.size_drew] at hl
    have Hl := Lib.hid hl
    clear hl
    refine hK.out _ _ (hS6) ?_
    try simp only [Act.put, List.setIfInBounds_toArray, List.set_cons_zero, List.set_cons_succ]
    clear hK K hS
    refine restK_alone 1 rfl (by kernel_rfl) (by rfl) (fun hS K hK => ?_)
    go_wp2_with fail
    refine (c_spec_EntryRow i t c s k a b x y _ yi yt yc ys yk ya yb yx yy HE.out).mono ?_
    rintro e w5 ⟨a5, c5, rfl, ho5, hb5⟩
    have hS5 := bl_step hb5 hS.size hS
    have hz5 := hb5.size
    have hz4 := hS5.size
    simp only [World.size_drew, World.size_alloc] at hz5 ho5
    have Ho5 := Lib.hid ho5
    clear ho5
    replace Hl := Lib.hid (Hl.out.below hb5)
    refine hK.out _ _ (hS5) ?_
    try simp only [Act.put, List.setIfInBounds_toArray, List.set_cons_zero, List.set_cons_succ]
    clear hK K hS
    clear hb5
    refine restK_break 7 rfl (by kernel_rfl) (by rfl) (by kernel_rfl) (fun hS K hK => ?_)
    have hBw : Below w.heap.size w _ := bl_step hS (by (first | (simp; done) | (simp; omega) | omega)) HB1.out
    have Hap := Lib.hid Ho5.out.2.2.lt
    have hz9 := hS.size
    refine wpo_append_ints _ _ _ (by rfl) w1.heap.size 2 i0 Try.underlying85 hi hz0 hz1 hz2 _ _ _ _ [i, t, c, s, k, a, b, x, y] [i, i] (by rfl) (IntsO.lower Ho5.out (by (first | (simp; done) | (simp; omega) | omega))) (by rfl) Hl.out (by simp) (by (first | (simp; done) | (simp; omega) | omega)) (fun a6 c6 w6 ho6 hg6 => ?_)
    have hB6 := hBw.grown hg6 (by have := hBw.size; omega) (fun q hq => by have := (Hap.out q hq).1; (try simp at this); have := HB1.out.size; omega)
    clear hBw Hap hz9
    refine hK.out _ _ trivial ?_
    try simp only [Act.put, List.setIfInBounds_toArray, List.set_cons_zero, List.set_cons_succ]
    clear hK K hS
    refine rest_take (v := ?_) 8 rfl (by kernel_rfl) (by kernel_rfl) (by kernel_rfl) (fun _ _ _ h => h) (by rfl) ?_ ?_
    rotate_left
    · intro w9; go_simp; try with_reducible rfl
    try simp only [Act.put, List.setIfInBounds_toArray, List.set_cons_zero, List.set_cons_succ]
    refine rest_done (by kernel_rfl) ?_
    go_wp2_with fail
    go_ret
    exact ⟨a6, c6, rfl, IntsO.lower ho6 HB1.out.size, hB6⟩
theorem c_spec_SlotRow_n (i t c s k a b x y : Int) (w : World) (hE : entryOk i t c s k a b x y = false) : Calls Try.prog 35 #[.agg #[.int .i64 i, .int .i64 t, .int .i64 c, .int .i64 s, .int .i64 k, .int .i64 a, .int .i64 b, .int .i64 x, .int .i64 y]] w (RetI w 2 []) := by
  have HE := Lib.hid hE
  clear hE
  go_enter Try.func35, Try.ntmps35
  go_wp2_with fail
  refine (c_spec_EntryOk i t c s k a b x y _).mono ?_
  rw [HE.out]
  rintro e w1 ⟨rfl, hb1⟩
  have hz1 := hb1.size
  simp only [World.size_alloc] at hz1
  go_wp2_with fail
  go_ret
  exact ⟨_, _, rfl, IntsO.lower (owns_empty w1 _ _ (Nat.le_refl _)) (by omega), by (repeat (first | with_reducible exact Below.refl _ _ | ((with_reducible refine bl_alloc ?_ ?_); (focus (first | (simp; done) | (simp; omega) | omega))) | ((with_reducible refine bl_set ?_ ?_); (focus (first | (simp; done) | (simp; omega) | omega))) | ((with_reducible refine bl_later ?_ ?_); (focus (first | (simp; done) | (simp; omega) | omega))) | with_reducible refine bl_drew ?_ | with_reducible refine bl_drewN ?_ | ((with_reducible refine bl_step (by assumption) ?_ ?_); (focus (first | (simp; done) | (simp; omega) | omega)))))⟩
theorem c_impl_SlotRow_y (i t c s k a b x y : Int) (w : World) (yi : inI64 i) (yt : inI64 t) (yc : inI64 c) (ys : inI64 s) (yk : inI64 k) (ya : inI64 a) (yb : inI64 b) (yx : inI64 x) (yy : inI64 y) (hE : entryOk i t c s k a b x y = true) : Calls Try.prog 40 #[.agg #[.int .i64 i, .int .i64 t, .int .i64 c, .int .i64 s, .int .i64 k, .int .i64 a, .int .i64 b, .int .i64 x, .int .i64 y]] w (RetI w 2 [i, t, c, s, k, a, b, x, y, i, i]) := by
  obtain ⟨i0, hi, hz0, hz1, hz2⟩ := info_parts info_int64
  have HE := Lib.hid hE
  clear hE
  go_enter Try.func40, Try.ntmps40
  go_wp2_with fail
  refine (c_impl_EntryOk i t c s k a b x y _).mono ?_
  rw [HE.out]
  rintro e w1 ⟨rfl, hb1⟩
  have hz1' := hb1.size
  simp only [World.size_alloc] at hz1'
  have hca0 := fun (o : Nat) => hb1.cell (p := ⟨w.heap.size, o, none⟩) (by (first | (simp; done) | (simp; omega) | omega))
  have hfa0 := fun (o : Nat) => hb1.frozen (p := ⟨w.heap.size, o, none⟩) (by (first | (simp; done) | (simp; omega) | omega))
  have HB1 : Hid (Below w.heap.size w w1) := by unfold Hid; (repeat (first | with_reducible exact Below.refl _ _ | ((with_reducible refine bl_alloc ?_ ?_); (focus (first | (simp; done) | (simp; omega) | omega))) | ((with_reducible refine bl_set ?_ ?_); (focus (first | (simp; done) | (simp; omega) | omega))) | ((with_reducible refine bl_later ?_ ?_); (focus (first | (simp; done) | (simp; omega) | omega))) | with_reducible refine bl_drew ?_ | with_reducible refine bl_drewN ?_ | ((with_reducible refine bl_step (by assumption) ?_ ?_); (focus (first | (simp; done) | (simp; omega) | omega)))))
  have hl0 : w.heap.size < w1.heap.size := by omega
  go_wp2_with fail
  refine restK_begin [7] (by kernel_rfl) ?_
  refine restK_take (v := ?_) 0 rfl (by kernel_rfl) (by kernel_rfl) (by kernel_rfl) (by kernel_rfl) (by kernel_rfl) (by kernel_rfl) (fun _ _ _ h => h) (by rfl) ?_ ?_
  rotate_left
  · intro w9 h9; try dsimp only at h9
    obtain ⟨x9, rfl⟩ := later_of h9
    go_simp; try with_reducible rfl
  try simp only [Act.put, List.setIfInBounds_toArray, List.set_cons_zero, List.set_cons_succ]
  refine restK_take (v := ?_) 2 rfl (by kernel_rfl) (by kernel_rfl) (by kernel_rfl) (by kernel_rfl) (by kernel_rfl) (by kernel_rfl) (fun _ _ _ h => h) (by rfl) ?_ ?_
  rotate_left
  · intro w9 h9; try dsimp only at h9
    obtain ⟨x9, rfl⟩ := later_of h9
    go_simp; try with_reducible rfl
  try simp only [Act.put, List.setIfInBounds_toArray, List.set_cons_zero, List.set_cons_succ]
  refine restK_take (v := ?_) 3 rfl (by kernel_rfl) (by kernel_rfl) (by kernel_rfl) (by kernel_rfl) (by kernel_rfl) (by kernel_rfl) (fun _ _ _ h => h) (by rfl) ?_ ?_
  rotate_left
  · intro w9 h9; try dsimp only at h9
    obtain ⟨x9, rfl⟩ := later_of h9
    go_simp; try with_reducible rfl
  try simp only [Act.put, List.setIfInBounds_toArray, List.set_cons_zero, List.set_cons_succ]
  refine restK_take (v := ?_) 4 rfl (by kernel_rfl) (by kernel_rfl) (by kernel_rfl) (by kernel_rfl) (by kernel_rfl) (by kernel_rfl) (fun _ _ _ h => h) (by rfl) ?_ ?_
  rotate_left
  · intro w9 h9; try dsimp only at h9
    obtain ⟨x9, rfl⟩ := later_of h9
    go_simp; try with_reducible rfl
  try simp only [Act.put, List.setIfInBounds_toArray, List.set_cons_zero, List.set_cons_succ]
  refine restK_take (v := ?_) 5 rfl (by kernel_rfl) (by kernel_rfl) (by kernel_rfl) (by kernel_rfl) (by kernel_rfl) (by kernel_rfl) (fun _ _ _ h => h) (by rfl) ?_ ?_
  rotate_left
  · intro w9 h9; try dsimp only at h9
    obtain ⟨x9, rfl⟩ := later_of h9
    go_simp; try with_reducible rfl
  try simp only [Act.put, List.setIfInBounds_toArray, List.set_cons_zero, List.set_cons_succ]
  refine restK_two 1 6 rfl rfl (by kernel_rfl) (by rfl) (by rfl) (fun hS K hK => ?_) (fun hS K hK => ?_)
  · skip
    go_wp2_with fail
    refine (c_impl_Entry_numbers i t c s k a b x y _ yi yt yc ys yk ya yb yx yy).mono ?_
    rintro e w5 ⟨a5, c5, rfl, ho5, hb5⟩
    have hS5 := bl_step hb5 hS.size hS
    have hz5 := hb5.size
    have hz4 := hS5.size
    simp only [World.size_drew] at hz5 ho5
    have Ho5 := Lib.hid ho5
    clear ho5
    refine hK.out _ _ (hS5) ?_
    try simp only [Act.put, List.setIfInBounds_toArray, List.set_cons_zero, List.set_cons_succ]
    clear hK K hS
    clear hb5
    refine restK_alone 6 rfl (by kernel_rfl) (by rfl) (fun hS K hK => ?_)
    go_wp2_with fail
    have hS6 := hS.alloc hS.size (.cells (([i, i] : List Int).map (Value.int .i64)).toArray 2)
    have hl := (owns_lit w5 0 2 [i, i] (Nat.zero_le _) (by simp) (by simp [yi])).read
    have Hl := Lib.hid hl
    clear hl
    replace Ho5 := Lib.hid (Ho5.out.below ((Below.refl _ _).alloc (Nat.le_refl _) (.cells (([i, i] : List Int).map (Value.int .i64)).toArray 2)))
    refine hK.out _ _ (hS6) ?_
    try simp only [Act.put, List.setIfInBounds_toArray, List.set_cons_zero, List.set_cons_succ]
    clear hK K hS
    refine restK_break 7 rfl (by kernel_rfl) (by rfl) (by kernel_rfl) (fun hS K hK => ?_)
    have hBw : Below w.heap.size w _ := bl_step hS (by (first | (simp; done) | (simp; omega) | omega)) HB1.out
    have Hap := Lib.hid Ho5.out.2.2.lt
    have hz9 := hS.size
    refine wpo_append_ints _ _ _ (by rfl) w1.heap.size 2 i0 Try.underlying85 hi hz0 hz1 hz2 _ _ _ _ [i, t, c, s, k, a, b, x, y] [i, i] (by rfl) (IntsO.lower Ho5.out (by (first | (simp; done) | (simp; omega) | omega))) (by rfl) Hl.out (by simp) (by (first | (simp; done) | (simp; omega) | omega)) (fun a6 c6 w6 ho6 hg6 => ?_)
    have hB6 := hBw.grown hg6 (by have := hBw.size; omega) (fun q hq => by have := (Hap.out q hq).1; (try simp at this); have := HB1.out.size; omega)
    clear hBw Hap hz9
    refine hK.out _ _ trivial ?_
    try simp only [Act.put, List.setIfInBounds_toArray, List.set_cons_zero, List.set_cons_succ]
    clear hK K hS
    refine rest_take (v := ?_) 8 rfl (by kernel_rfl) (by kernel_rfl) (by kernel_rfl) (fun _ _ _ h => h) (by rfl) ?_ ?_
    rotate_left
    · intro w9; go_simp; try with_reducible rfl
    try simp only [Act.put, List.setIfInBounds_toArray, List.set_cons_zero, List.set_cons_succ]
    refine rest_done (by kernel_rfl) ?_
    go_wp2_with fail
    go_ret
    exact ⟨a6, c6, rfl, IntsO.lower ho6 HB1.out.size, hB6⟩
  · skip
    go_wp2_with fail
    have hS6 := hS.alloc hS.size (.cells (([i, i] : List Int).map (Value.int .i64)).toArray 2)
    have hl := (owns_lit w1.drew 0 2 [i, i] (Nat.zero_le _) (by simp) (by simp [yi])).read
    simp only [World.size_drew] at hl
    have Hl := Lib.hid hl
    clear hl
    refine hK.out _ _ (hS6) ?_
    try simp only [Act.put, List.setIfInBounds_toArray, List.set_cons_zero, List.set_cons_succ]
    clear hK K hS
    refine restK_alone 1 rfl (by kernel_rfl) (by rfl) (fun hS K hK => ?_)
    go_wp2_with fail
    refine (c_impl_Entry_numbers i t c s k a b x y _ yi yt yc ys yk ya yb yx yy).mono ?_
    rintro e w5 ⟨a5, c5, rfl, ho5, hb5⟩
    have hS5 := bl_step hb5 hS.size hS
    have hz5 := hb5.size
    have hz4 := hS5.size
    simp only [World.size_drew, World.size_alloc] at hz5 ho5
    have Ho5 := Lib.hid ho5
    clear ho5
    replace Hl := Lib.hid (Hl.out.below hb5)
    refine hK.out _ _ (hS5) ?_
    try simp only [Act.put, List.setIfInBounds_toArray, List.set_cons_zero, List.set_cons_succ]
    clear hK K hS
    clear hb5
    refine restK_break 7 rfl (by kernel_rfl) (by rfl) (by kernel_rfl) (fun hS K hK => ?_)
    have hBw : Below w.heap.size w _ := bl_step hS (by (first | (simp; done) | (simp; omega) | omega)) HB1.out
    have Hap := Lib.hid Ho5.out.2.2.lt
    have hz9 := hS.size
    refine wpo_append_ints _ _ _ (by rfl) w1.heap.size 2 i0 Try.underlying85 hi hz0 hz1 hz2 _ _ _ _ [i, t, c, s, k, a, b, x, y] [i, i] (by rfl) (IntsO.lower Ho5.out (by (first | (simp; done) | (simp; omega) | omega))) (by rfl) Hl.out (by simp) (by (first | (simp; done) | (simp; omega) | omega)) (fun a6 c6 w6 ho6 hg6 => ?_)
    have hB6 := hBw.grown hg6 (by have := hBw.size; omega) (fun q hq => by have := (Hap.out q hq).1; (try simp at this); have := HB1.out.size; omega)
    clear hBw Hap hz9
    refine hK.out _ _ trivial ?_
    try simp only [Act.put, List.setIfInBounds_toArray, List.set_cons_zero, List.set_cons_succ]
    clear hK K hS
    refine rest_take (v := ?_) 8 rfl (by kernel_rfl) (by kernel_rfl) (by kernel_rfl) (fun _ _ _ h => h) (by rfl) ?_ ?_
    rotate_left
    · intro w9; go_simp; try with_reducible rfl
    try simp only [Act.put, List.setIfInBounds_toArray, List.set_cons_zero, List.set_cons_succ]
    refine rest_done (by kernel_rfl) ?_
    go_wp2_with fail
    go_ret
    exact ⟨a6, c6, rfl, IntsO.lower ho6 HB1.out.size, hB6⟩
theorem c_impl_SlotRow_n (i t c s k a b x y : Int) (w : World) (hE : entryOk i t c s k a b x y = false) : Calls Try.prog 40 #[.agg #[.int .i64 i, .int .i64 t, .int .i64 c, .int .i64 s, .int .i64 k, .int .i64 a, .int .i64 b, .int .i64 x, .int .i64 y]] w fun e w' => e = .returned (.slice none 0 0) ∧ Below w.heap.size w w' := by
  have HE := Lib.hid hE
  clear hE
  go_enter Try.func40, Try.ntmps40
  go_wp2_with fail
  refine (c_impl_EntryOk i t c s k a b x y _).mono ?_
  rw [HE.out]
  rintro e w1 ⟨rfl, hb1⟩
  have hz1 := hb1.size
  simp only [World.size_alloc] at hz1
  go_wp2_with fail
  go_ret
  exact ⟨rfl, by (repeat (first | with_reducible exact Below.refl _ _ | ((with_reducible refine bl_alloc ?_ ?_); (focus (first | (simp; done) | (simp; omega) | omega))) | ((with_reducible refine bl_set ?_ ?_); (focus (first | (simp; done) | (simp; omega) | omega))) | ((with_reducible refine bl_later ?_ ?_); (focus (first | (simp; done) | (simp; omega) | omega))) | with_reducible refine bl_drew ?_ | with_reducible refine bl_drewN ?_ | ((with_reducible refine bl_step (by assumption) ?_ ?_); (focus (first | (simp; done) | (simp; omega) | omega)))))⟩

end Go.Proofs.Ytmjafclpeknpcaa
