/- Walks of functions of the program, printed by a program of the prover. -/
import Derived.Test.YtmjafclpeknpcaaEnt
import Derived.Test.YtmjafclpeknpcaaOne
import Derived.Test.YtmjafclpeknpcaaReg
import Derived.WalkKit
import Derived.WalkSpells
import Derived.Deep.QuietTactic
import Derived.BigQuiet
import Derived.Deep.Light
import Derived.Lib.Hide
import Derived.IntWalk
namespace Go.Proofs.Ytmjafclpeknpcaa
open Go.ChangeShapes Go.WideShapes Go.ChangeAt Go.RowKit Go.Deep
set_option maxHeartbeats 1600000
set_option maxRecDepth 100000
theorem c_impl_Op_numbers (k a b x y : Int) (w : World) (yk : inI64 k) (ya : inI64 a) (yb : inI64 b) (yx : inI64 x) (yy : inI64 y) : Calls Try.prog 148 #[.agg #[.int .i64 k, .int .i64 a, .int .i64 b, .int .i64 x, .int .i64 y]] w (RetI w 2 [k, a, b, x, y]) := by
  go_enter Try.func148, Try.ntmps148
  go_wp2
  go_ret
  have h9 := owns_lit (w.alloc (.cells ([.int .i64 k, .int .i64 a, .int .i64 b, .int .i64 x, .int .i64 y] : List Value).toArray 41)) w.heap.size 2 [k, a, b, x, y] (by simp) (by simp) (by simp [yk, ya, yb, yx, yy])
  rw [World.size_alloc] at h9
  exact ⟨_, _, rfl, h9, by (repeat (first | with_reducible exact Below.refl _ _ | ((with_reducible refine bl_alloc ?_ ?_); (focus (first | (simp; done) | (simp; omega) | omega))) | ((with_reducible refine bl_set ?_ ?_); (focus (first | (simp; done) | (simp; omega) | omega))) | ((with_reducible refine bl_later ?_ ?_); (focus (first | (simp; done) | (simp; omega) | omega))) | with_reducible refine bl_drew ?_ | with_reducible refine bl_drewN ?_ | ((with_reducible refine bl_step (by assumption) ?_ ?_); (focus (first | (simp; done) | (simp; omega) | omega)))))⟩
theorem c_spec_OpRow (k a b x y : Int) (w : World) (yk : inI64 k) (ya : inI64 a) (yb : inI64 b) (yx : inI64 x) (yy : inI64 y) (hE : opOk k a b x y = true) : Calls Try.prog 136 #[.agg #[.int .i64 k, .int .i64 a, .int .i64 b, .int .i64 x, .int .i64 y]] w (RetI w 2 [k, a, b, x, y]) := by
  go_enter Try.func136, Try.ntmps136
  go_wp2_with (go_at_call 79; refine (c_spec_OpOk k a b x y _).mono ?_; rintro e w1 ⟨rfl, hb⟩; obtain ⟨hc, hf, hsz⟩ := bcell hb; have hz := hb.size; (try simp at hz))
  go_ret
  exact ⟨_, _, rfl, owns_lit w1 _ _ [k, a, b, x, y] (by omega) (by simp) (by simp [yk, ya, yb, yx, yy]), by (repeat (first | with_reducible exact Below.refl _ _ | ((with_reducible refine bl_alloc ?_ ?_); (focus (first | (simp; done) | (simp; omega) | omega))) | ((with_reducible refine bl_set ?_ ?_); (focus (first | (simp; done) | (simp; omega) | omega))) | ((with_reducible refine bl_later ?_ ?_); (focus (first | (simp; done) | (simp; omega) | omega))) | with_reducible refine bl_drew ?_ | with_reducible refine bl_drewN ?_ | ((with_reducible refine bl_step (by assumption) ?_ ?_); (focus (first | (simp; done) | (simp; omega) | omega)))))⟩
theorem c_impl_Entry_numbers (i t c s k a b x y : Int) (w : World) (yi : inI64 i) (yt : inI64 t) (yc : inI64 c) (ys : inI64 s) (yk : inI64 k) (ya : inI64 a) (yb : inI64 b) (yx : inI64 x) (yy : inI64 y) : Calls Try.prog 91 #[.agg #[.int .i64 i, .int .i64 t, .int .i64 c, .int .i64 s, .int .i64 k, .int .i64 a, .int .i64 b, .int .i64 x, .int .i64 y]] w (RetI w 2 [i, t, c, s, k, a, b, x, y]) := by
  obtain ⟨i0, hi, hz0, hz1, hz2⟩ := info_parts info_int64
  have hOw := ((owns_lit (w.alloc (.cells ([.int .i64 i, .int .i64 t, .int .i64 c, .int .i64 s, .int .i64 k, .int .i64 a, .int .i64 b, .int .i64 x, .int .i64 y] : List Value).toArray 43)) (w.heap.size + 1) 2 [i, t, c, s] (by simp) (by simp) (by simp [yi, yt, yc, ys])).below ((Below.refl _ _).alloc (Nat.le_refl _) (.cells ([.int .i64 k, .int .i64 a, .int .i64 b, .int .i64 x, .int .i64 y, .slice (some ⟨w.heap.size + 1, 0, none⟩) 4 4] : List Value).toArray 158))).below (Below.refl _ _).drew
  have hBx := Bx.new ((w.alloc (.cells ([.int .i64 i, .int .i64 t, .int .i64 c, .int .i64 s, .int .i64 k, .int .i64 a, .int .i64 b, .int .i64 x, .int .i64 y] : List Value).toArray 43)).alloc (.cells ([.int .i64 i, .int .i64 t, .int .i64 c, .int .i64 s] : List Value).toArray 2)) [.int .i64 k, .int .i64 a, .int .i64 b, .int .i64 x, .int .i64 y, .slice (some ⟨w.heap.size + 1, 0, none⟩) 4 4] 158
  simp only [World.size_alloc] at hOw hBx
  have HOw := Lib.hid hOw
  have HBx := Lib.hid hBx
  clear hOw hBx
  go_enter Try.func91, Try.ntmps91
  go_wp2_with fail
  refine restS_begin (SB w (w.heap.size + 1 + 1) [.int .i64 k, .int .i64 a, .int .i64 b, .int .i64 x, .int .i64 y, .slice (some ⟨w.heap.size + 1, 0, none⟩) 4 4]) (by kernel_rfl) (SB.start (by (repeat (first | with_reducible exact Below.refl _ _ | ((with_reducible refine bl_alloc ?_ ?_); (focus (first | (simp; done) | (simp; omega) | omega))) | ((with_reducible refine bl_set ?_ ?_); (focus (first | (simp; done) | (simp; omega) | omega))) | ((with_reducible refine bl_later ?_ ?_); (focus (first | (simp; done) | (simp; omega) | omega))) | with_reducible refine bl_drew ?_ | with_reducible refine bl_drewN ?_ | ((with_reducible refine bl_step (by assumption) ?_ ?_); (focus (first | (simp; done) | (simp; omega) | omega)))))) HBx.out) ?_
  have hOw := HOw.out
  clear HOw HBx
  refine restS_take (v := ?_) 0 rfl (by kernel_rfl) (by kernel_rfl) (by kernel_rfl) (fun _ _ _ h => h) (by rfl) ?_ ?_
  rotate_left
  · intro w9 h9; try dsimp only at h9
    go_split_ands
    go_simp; try with_reducible rfl
  try simp only [Act.put, List.setIfInBounds_toArray, List.set_cons_zero, List.set_cons_succ]
  refine restS_take (v := ?_) 1 rfl (by kernel_rfl) (by kernel_rfl) (by kernel_rfl) (fun _ _ _ h => h) (by rfl) ?_ ?_
  rotate_left
  · intro w9 h9; obtain ⟨h8, h9⟩ := h9; obtain ⟨x9, rfl⟩ := later_of h8; replace h9 := h9.2; clear h8
    go_simp; try with_reducible rfl
  try simp only [Act.put, List.setIfInBounds_toArray, List.set_cons_zero, List.set_cons_succ]
  refine restS_take (v := ?_) 2 rfl (by kernel_rfl) (by kernel_rfl) (by kernel_rfl) (fun _ _ _ h => h) (by rfl) ?_ ?_
  rotate_left
  · intro w9 h9; try dsimp only at h9
    go_split_ands
    go_simp; try with_reducible rfl
  try simp only [Act.put, List.setIfInBounds_toArray, List.set_cons_zero, List.set_cons_succ]
  refine restS_take (v := ?_) 3 rfl (by kernel_rfl) (by kernel_rfl) (by kernel_rfl) (fun _ _ _ h => h) (by rfl) ?_ ?_
  rotate_left
  · intro w9 h9; obtain ⟨h8, h9⟩ := h9; obtain ⟨x9, rfl⟩ := later_of h8; replace h9 := h9.2; clear h8
    go_simp; try with_reducible rfl
  try simp only [Act.put, List.setIfInBounds_toArray, List.set_cons_zero, List.set_cons_succ]
  refine restS_alone 4 rfl (by kernel_rfl) (by rfl) (fun hS K hK => ?_)
  go_wp2_with fail
  refine (c_impl_Op_numbers k a b x y _ yk ya yb yx yy).mono ?_
  rintro e w4 ⟨a4, c4, rfl, ho4, hb4⟩
  go_wp2_with fail
  have hSx := SB.step hS hb4
  have hRd := ho4.read
  replace hOw := hOw.below hb4
  refine hK.out _ _ hSx ?_
  try simp only [Act.put, List.setIfInBounds_toArray, List.set_cons_zero, List.set_cons_succ]
  clear hK K hS hSx
  refine restS_alone 5 rfl (by kernel_rfl) (by rfl) (fun hS K hK => ?_)
  have hlt := hOw.2.2.lt
  refine wpo_append_ints _ _ _ (by rfl) (w.heap.size + 1) 2 i0 Try.underlying85 hi hz0 hz1 hz2 _ _ _ _ [i, t, c, s] [k, a, b, x, y] (by rfl) hOw (by rfl) hRd (by simp) (by have h7 := hS.2.1; omega) (fun a5 c5 w5 ho5 hg5 => ?_)
  have hSx := SB.grown hS hg5 (fun k hk => Nat.le_trans (by simp) (hlt k hk).1) (fun e => by simp [Value.ownBlock] at e)
  clear hlt
  refine hK.out _ _ hSx ?_
  try simp only [Act.put, List.setIfInBounds_toArray, List.set_cons_zero, List.set_cons_succ]
  clear hK K hS hSx
  refine restS_take (v := ?_) 6 rfl (by kernel_rfl) (by kernel_rfl) (by kernel_rfl) (fun _ _ _ h => h) (by rfl) ?_ ?_
  rotate_left
  · intro w9 h9; try dsimp only at h9
    go_split_ands
    go_simp; try with_reducible rfl
  try simp only [Act.put, List.setIfInBounds_toArray, List.set_cons_zero, List.set_cons_succ]
  refine restS_done (by kernel_rfl) (fun hS => ?_)
  go_wp2_with fail
  go_ret
  refine ⟨a5, c5, ?_, ho5.lower (by simp), hS.1⟩
  rfl
theorem c_spec_EntryRow (i t c s k a b x y : Int) (w : World) (yi : inI64 i) (yt : inI64 t) (yc : inI64 c) (ys : inI64 s) (yk : inI64 k) (ya : inI64 a) (yb : inI64 b) (yx : inI64 x) (yy : inI64 y) (hE : entryOk i t c s k a b x y = true) : Calls Try.prog 83 #[.agg #[.int .i64 i, .int .i64 t, .int .i64 c, .int .i64 s, .int .i64 k, .int .i64 a, .int .i64 b, .int .i64 x, .int .i64 y]] w (RetI w 2 [i, t, c, s, k, a, b, x, y]) := by
  obtain ⟨i0, hi, hz0, hz1, hz2⟩ := info_parts info_int64
  have hO : opOk k a b x y = true := by simp only [entryOk, Bool.and_eq_true] at hE; exact hE.2.2.2.2
  go_enter Try.func83, Try.ntmps83
  go_wp2_with (go_at_call 31; refine (c_spec_EntryOk i t c s k a b x y _).mono ?_; rintro e w1 ⟨rfl, hb⟩; have hBx := (Bx.new w [.int .i64 i, .int .i64 t, .int .i64 c, .int .i64 s, .int .i64 k, .int .i64 a, .int .i64 b, .int .i64 x, .int .i64 y] 43).below hb; have hbw : Below w.heap.size w w1 := bl_step hb (by simp) ((Below.refl _ _).alloc (Nat.le_refl _) _); clear hb)
  refine restS_begin (SB w w.heap.size [.int .i64 i, .int .i64 t, .int .i64 c, .int .i64 s, .int .i64 k, .int .i64 a, .int .i64 b, .int .i64 x, .int .i64 y]) (by kernel_rfl) (SB.start hbw hBx) ?_
  clear hBx hbw
  refine restS_take (v := ?_) 0 rfl (by kernel_rfl) (by kernel_rfl) (by kernel_rfl) (fun _ _ _ h => h) (by rfl) ?_ ?_
  rotate_left
  · intro w9 h9; try dsimp only at h9
    go_split_ands
    go_simp; try with_reducible rfl
  try simp only [Act.put, List.setIfInBounds_toArray, List.set_cons_zero, List.set_cons_succ]
  refine restS_take (v := ?_) 1 rfl (by kernel_rfl) (by kernel_rfl) (by kernel_rfl) (fun _ _ _ h => h) (by rfl) ?_ ?_
  rotate_left
  · intro w9 h9; obtain ⟨h8, h9⟩ := h9; obtain ⟨x9, rfl⟩ := later_of h8; replace h9 := h9.2; clear h8
    go_simp; try with_reducible rfl
  try simp only [Act.put, List.setIfInBounds_toArray, List.set_cons_zero, List.set_cons_succ]
  refine restS_take (v := ?_) 2 rfl (by kernel_rfl) (by kernel_rfl) (by kernel_rfl) (fun _ _ _ h => h) (by rfl) ?_ ?_
  rotate_left
  · intro w9 h9; try dsimp only at h9
    go_split_ands
    go_simp; try with_reducible rfl
  try simp only [Act.put, List.setIfInBounds_toArray, List.set_cons_zero, List.set_cons_succ]
  refine restS_take (v := ?_) 3 rfl (by kernel_rfl) (by kernel_rfl) (by kernel_rfl) (fun _ _ _ h => h) (by rfl) ?_ ?_
  rotate_left
  · intro w9 h9; obtain ⟨h8, h9⟩ := h9; obtain ⟨x9, rfl⟩ := later_of h8; replace h9 := h9.2; clear h8
    go_simp; try with_reducible rfl
  try simp only [Act.put, List.setIfInBounds_toArray, List.set_cons_zero, List.set_cons_succ]
  refine restS_take (v := ?_) 4 rfl (by kernel_rfl) (by kernel_rfl) (by kernel_rfl) (fun _ _ _ h => h) (by rfl) ?_ ?_
  rotate_left
  · intro w9 h9; try dsimp only at h9
    go_split_ands
    go_simp; try with_reducible rfl
  try simp only [Act.put, List.setIfInBounds_toArray, List.set_cons_zero, List.set_cons_succ]
  refine restS_take (v := ?_) 5 rfl (by kernel_rfl) (by kernel_rfl) (by kernel_rfl) (fun _ _ _ h => h) (by rfl) ?_ ?_
  rotate_left
  · intro w9 h9; obtain ⟨h8, h9⟩ := h9; obtain ⟨x9, rfl⟩ := later_of h8; replace h9 := h9.2; clear h8
    go_simp; try with_reducible rfl
  try simp only [Act.put, List.setIfInBounds_toArray, List.set_cons_zero, List.set_cons_succ]
  refine restS_take (v := ?_) 6 rfl (by kernel_rfl) (by kernel_rfl) (by kernel_rfl) (fun _ _ _ h => h) (by rfl) ?_ ?_
  rotate_left
  · intro w9 h9; try dsimp only at h9
    go_split_ands
    go_simp; try with_reducible rfl
  try simp only [Act.put, List.setIfInBounds_toArray, List.set_cons_zero, List.set_cons_succ]
  refine restS_take (v := ?_) 7 rfl (by kernel_rfl) (by kernel_rfl) (by kernel_rfl) (fun _ _ _ h => h) (by rfl) ?_ ?_
  rotate_left
  · intro w9 h9; obtain ⟨h8, h9⟩ := h9; obtain ⟨x9, rfl⟩ := later_of h8; replace h9 := h9.2; clear h8
    go_simp; try with_reducible rfl
  try simp only [Act.put, List.setIfInBounds_toArray, List.set_cons_zero, List.set_cons_succ]
  refine restS_take (v := ?_) 9 rfl (by kernel_rfl) (by kernel_rfl) (by kernel_rfl) (fun _ _ _ h => h) (by rfl) ?_ ?_
  rotate_left
  · intro w9 h9; try dsimp only at h9
    go_split_ands
    go_simp; try with_reducible rfl
  try simp only [Act.put, List.setIfInBounds_toArray, List.set_cons_zero, List.set_cons_succ]
  refine restS_take (v := ?_) 10 rfl (by kernel_rfl) (by kernel_rfl) (by kernel_rfl) (fun _ _ _ h => h) (by rfl) ?_ ?_
  rotate_left
  · intro w9 h9; obtain ⟨h8, h9⟩ := h9; obtain ⟨x9, rfl⟩ := later_of h8; replace h9 := h9.2; clear h8
    go_simp; try with_reducible rfl
  try simp only [Act.put, List.setIfInBounds_toArray, List.set_cons_zero, List.set_cons_succ]
  refine restS_two 8 11 rfl rfl (by kernel_rfl) (by rfl) (by rfl) (fun hS K hK => ?_) (fun hS K hK => ?_)
  · skip
    go_wp2_with fail
    have hOw := SB.lit hS (w.heap.size + 1) 2 [i, t, c, s] (by omega) (by simp) (by simp [yi, yt, yc, ys])
    have hSx := SB.alloc hS (.cells (([i, t, c, s] : List Int).map (Value.int .i64)).toArray 2)
    refine hK.out _ _ hSx ?_
    try simp only [Act.put, List.setIfInBounds_toArray, List.set_cons_zero, List.set_cons_succ]
    clear hK K hS hSx
    refine restS_alone 11 rfl (by kernel_rfl) (by rfl) (fun hS K hK => ?_)
    go_wp2_with fail
    refine (c_spec_OpRow k a b x y _ yk ya yb yx yy hO).mono ?_
    rintro e w4 ⟨a4, c4, rfl, ho4, hb4⟩
    go_wp2_with fail
    have hSx := SB.step hS hb4
    have hRd := ho4.read
    replace hOw := hOw.below hb4
    refine hK.out _ _ hSx ?_
    try simp only [Act.put, List.setIfInBounds_toArray, List.set_cons_zero, List.set_cons_succ]
    clear hK K hS hSx
    refine restS_alone 12 rfl (by kernel_rfl) (by rfl) (fun hS K hK => ?_)
    have hlt := hOw.2.2.lt
    refine wpo_append_ints _ _ _ (by rfl) (w.heap.size + 1) 2 i0 Try.underlying85 hi hz0 hz1 hz2 _ _ _ _ [i, t, c, s] [k, a, b, x, y] (by rfl) hOw (by rfl) hRd (by simp) (by have h7 := hS.2.1; omega) (fun a5 c5 w5 ho5 hg5 => ?_)
    have hSx := SB.grown hS hg5 (fun k hk => Nat.le_trans (by simp) (hlt k hk).1) (fun e => by have h7 := (hlt _ e).1; omega)
    clear hlt
    refine hK.out _ _ hSx ?_
    try simp only [Act.put, List.setIfInBounds_toArray, List.set_cons_zero, List.set_cons_succ]
    clear hK K hS hSx
    refine restS_take (v := ?_) 13 rfl (by kernel_rfl) (by kernel_rfl) (by kernel_rfl) (fun _ _ _ h => h) (by rfl) ?_ ?_
    rotate_left
    · intro w9 h9; try dsimp only at h9
      go_split_ands
      go_simp; try with_reducible rfl
    try simp only [Act.put, List.setIfInBounds_toArray, List.set_cons_zero, List.set_cons_succ]
    refine restS_done (by kernel_rfl) (fun hS => ?_)
    go_wp2_with fail
    go_ret
    refine ⟨a5, c5, ?_, ho5.lower (by simp), hS.1⟩
    rfl
  · skip
    go_wp2_with fail
    refine (c_spec_OpRow k a b x y _ yk ya yb yx yy hO).mono ?_
    rintro e w4 ⟨a4, c4, rfl, ho4, hb4⟩
    go_wp2_with fail
    have hSx := SB.step hS hb4
    have hRd := ho4.read
    refine hK.out _ _ hSx ?_
    try simp only [Act.put, List.setIfInBounds_toArray, List.set_cons_zero, List.set_cons_succ]
    clear hK K hS hSx
    refine restS_alone 8 rfl (by kernel_rfl) (by rfl) (fun hS K hK => ?_)
    go_wp2_with fail
    have hOw := SB.lit hS (w.heap.size + 1) 2 [i, t, c, s] (by omega) (by simp) (by simp [yi, yt, yc, ys])
    have hSx := SB.alloc hS (.cells (([i, t, c, s] : List Int).map (Value.int .i64)).toArray 2)
    replace hRd := hRd.below ((Below.refl _ _).alloc (Nat.le_refl _) (.cells (([i, t, c, s] : List Int).map (Value.int .i64)).toArray 2))
    refine hK.out _ _ hSx ?_
    try simp only [Act.put, List.setIfInBounds_toArray, List.set_cons_zero, List.set_cons_succ]
    clear hK K hS hSx
    refine restS_alone 12 rfl (by kernel_rfl) (by rfl) (fun hS K hK => ?_)
    have hlt := hOw.2.2.lt
    refine wpo_append_ints _ _ _ (by rfl) (w.heap.size + 1) 2 i0 Try.underlying85 hi hz0 hz1 hz2 _ _ _ _ [i, t, c, s] [k, a, b, x, y] (by rfl) hOw (by rfl) hRd (by simp) (by have h7 := hS.2.1; omega) (fun a5 c5 w5 ho5 hg5 => ?_)
    have hSx := SB.grown hS hg5 (fun k hk => Nat.le_trans (by simp) (hlt k hk).1) (fun e => by have h7 := (hlt _ e).1; omega)
    clear hlt
    refine hK.out _ _ hSx ?_
    try simp only [Act.put, List.setIfInBounds_toArray, List.set_cons_zero, List.set_cons_succ]
    clear hK K hS hSx
    refine restS_take (v := ?_) 13 rfl (by kernel_rfl) (by kernel_rfl) (by kernel_rfl) (fun _ _ _ h => h) (by rfl) ?_ ?_
    rotate_left
    · intro w9 h9; try dsimp only at h9
      go_split_ands
      go_simp; try with_reducible rfl
    try simp only [Act.put, List.setIfInBounds_toArray, List.set_cons_zero, List.set_cons_succ]
    refine restS_done (by kernel_rfl) (fun hS => ?_)
    go_wp2_with fail
    go_ret
    refine ⟨a5, c5, ?_, ho5.lower (by simp), hS.1⟩
    rfl

end Go.Proofs.Ytmjafclpeknpcaa
