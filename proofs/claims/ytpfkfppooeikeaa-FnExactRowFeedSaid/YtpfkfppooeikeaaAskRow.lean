/- Walks of functions of the program, printed by a program of the prover. -/
import Derived.Test.YtpfkfppooeikeaaOne
import Derived.Test.YtpfkfppooeikeaaBx
import Derived.Test.YtpfkfppooeikeaaLeaf2
import Derived.Test.YtpfkfppooeikeaaNums
namespace Go.Proofs.Ytpfkfppooeikeaa
open Go.RowKit
set_option maxHeartbeats 400000
set_option maxRecDepth 100000
def rowAsk (c s k a b x y : Int) : List Int := if askOk c s k a b x y then [1, c, s, k, a, b, x, y] else []
theorem rowAsk_t {c s k a b x y : Int} (h9 : (askOk c s k a b x y) = true) : rowAsk c s k a b x y = [1, c, s, k, a, b, x, y] := by unfold rowAsk; rw [h9]; rfl
theorem rowAsk_f {c s k a b x y : Int} (h9 : (askOk c s k a b x y) = false) : rowAsk c s k a b x y = [] := by unfold rowAsk; rw [h9]; rfl
theorem c_spec_AskRow (c s k a b x y : Int) (w : World) (yc : inI64 c) (ys : inI64 s) (yk : inI64 k) (ya : inI64 a) (yb : inI64 b) (yx : inI64 x) (yy : inI64 y) : Calls Try.prog 69 #[.agg #[.int .i64 c, .int .i64 s, .int .i64 k, .int .i64 a, .int .i64 b, .int .i64 x, .int .i64 y]] w (RetI w 2 (rowAsk c s k a b x y)) := by
  obtain ⟨i0, hi, hz0, hz1, hz2⟩ := info_parts info_int64
  cases hE : (askOk c s k a b x y)
  · rw [rowAsk_f hE]
    go_enter Try.func69, Try.ntmps69
    go_wp2_with (go_at_call 123; refine (c_spec_AskOk _ _ _ _ _ _ _ _).mono ?_; rintro e w1 ⟨rfl, hb⟩; have hz := hb.size; (try simp at hz))
    go_ret
    exact ⟨_, _, rfl, owns_empty w1 _ _ (by omega), by (repeat (first | with_reducible exact Below.refl _ _ | ((with_reducible refine bl_alloc ?_ ?_); (focus (first | (simp; done) | (simp; omega) | omega))) | ((with_reducible refine bl_set ?_ ?_); (focus (first | (simp; done) | (simp; omega) | omega))) | ((with_reducible refine bl_later ?_ ?_); (focus (first | (simp; done) | (simp; omega) | omega))) | with_reducible refine bl_drew ?_ | with_reducible refine bl_drewN ?_ | ((with_reducible refine bl_step (by assumption) ?_ ?_); (focus (first | (simp; done) | (simp; omega) | omega)))))⟩
  · rw [rowAsk_t hE]
    have hO : opOk k a b x y = true := by simp only [askOk, Bool.and_eq_true] at hE; exact hE.2.2
    have k1 : inI64 1 := by simp [inI64]
    go_enter Try.func69, Try.ntmps69
    go_wp2_with (go_at_call 123; refine (c_spec_AskOk _ _ _ _ _ _ _ _).mono ?_; rintro e w1 ⟨rfl, hb⟩; have hBx := (Bx.new w [.int .i64 c, .int .i64 s, .int .i64 k, .int .i64 a, .int .i64 b, .int .i64 x, .int .i64 y] 86).below hb; have hbw : Below w.heap.size w w1 := bl_step hb (by simp) ((Below.refl _ _).alloc (Nat.le_refl _) _); clear hb)
    refine restS_begin (SB w w.heap.size [.int .i64 c, .int .i64 s, .int .i64 k, .int .i64 a, .int .i64 b, .int .i64 x, .int .i64 y]) (by kernel_rfl) (SB.start hbw hBx) ?_
    clear hBx hbw
    refine restS_take (v := ?_) 0 rfl (by kernel_rfl) (by kernel_rfl) (by kernel_rfl) (fun _ _ _ h => h) (by rfl) ?_ ?_
    rotate_left
    · intro w9 h9; try dsimp only at h9
      go_split_ands
      go_simp; try with_reducible rfl
    try simp only [Act.put, List.setIfInBounds_toArray, List.set_cons_zero, List.set_cons_succ]
    refine restS_take (v := ?_) 1 rfl (by kernel_rfl) (by kernel_rfl) (by kernel_rfl) (fun _ _ _ h => h) (by rfl) ?_ ?_
    rotate_left
    · intro w9 h9; obtain ⟨h8, h9⟩ := h9; obtain ⟨x9, rfl⟩ := later_of h8; replace h9 := h9.2; clear h8
      go_simp; try with_reducible rfl
    try simp only [Act.put, List.setIfInBounds_toArray, List.set_cons_zero, List.set_cons_succ]
    refine restS_take (v := ?_) 2 rfl (by kernel_rfl) (by kernel_rfl) (by kernel_rfl) (fun _ _ _ h => h) (by rfl) ?_ ?_
    rotate_left
    · intro w9 h9; try dsimp only at h9
      go_split_ands
      go_simp; try with_reducible rfl
    try simp only [Act.put, List.setIfInBounds_toArray, List.set_cons_zero, List.set_cons_succ]
    refine restS_take (v := ?_) 3 rfl (by kernel_rfl) (by kernel_rfl) (by kernel_rfl) (fun _ _ _ h => h) (by rfl) ?_ ?_
    rotate_left
    · intro w9 h9; obtain ⟨h8, h9⟩ := h9; obtain ⟨x9, rfl⟩ := later_of h8; replace h9 := h9.2; clear h8
      go_simp; try with_reducible rfl
    try simp only [Act.put, List.setIfInBounds_toArray, List.set_cons_zero, List.set_cons_succ]
    refine restS_take (v := ?_) 5 rfl (by kernel_rfl) (by kernel_rfl) (by kernel_rfl) (fun _ _ _ h => h) (by rfl) ?_ ?_
    rotate_left
    · intro w9 h9; try dsimp only at h9
      go_split_ands
      go_simp; try with_reducible rfl
    try simp only [Act.put, List.setIfInBounds_toArray, List.set_cons_zero, List.set_cons_succ]
    refine restS_take (v := ?_) 6 rfl (by kernel_rfl) (by kernel_rfl) (by kernel_rfl) (fun _ _ _ h => h) (by rfl) ?_ ?_
    rotate_left
    · intro w9 h9; obtain ⟨h8, h9⟩ := h9; obtain ⟨x9, rfl⟩ := later_of h8; replace h9 := h9.2; clear h8
      go_simp; try with_reducible rfl
    try simp only [Act.put, List.setIfInBounds_toArray, List.set_cons_zero, List.set_cons_succ]
    refine restS_two 4 7 rfl rfl (by kernel_rfl) (by rfl) (by rfl) (fun hS K hK => ?_) (fun hS K hK => ?_)
    · skip
      go_wp2_with fail
      have hOw := SB.lit hS (w.heap.size + 1) 2 [1, c, s] (by omega) (by simp) (by simp [k1, yc, ys])
      have hSx := SB.alloc hS (.cells (([1, c, s] : List Int).map (Value.int .i64)).toArray 2)
      refine hK.out _ _ hSx ?_
      try simp only [Act.put, List.setIfInBounds_toArray, List.set_cons_zero, List.set_cons_succ]
      clear hK K hS hSx
      refine restS_alone 7 rfl (by kernel_rfl) (by rfl) (fun hS K hK => ?_)
      go_wp2_with fail
      refine (c_spec_OpRow k a b x y _ yk ya yb yx yy hO).mono ?_
      rintro e w4 ⟨a4, c4, rfl, ho4, hb4⟩
      go_wp2_with fail
      have hSx := SB.step hS hb4
      have hRd := ho4.read
      replace hOw := hOw.below hb4
      refine hK.out _ _ hSx ?_
      try simp only [Act.put, List.setIfInBounds_toArray, List.set_cons_zero, List.set_cons_succ]
      clear hK K hS hSx
      refine restS_alone 8 rfl (by kernel_rfl) (by rfl) (fun hS K hK => ?_)
      have hlt := hOw.2.2.lt
      refine wpo_append_ints _ _ _ (by rfl) (w.heap.size + 1) 2 i0 Try.underlying22 hi hz0 hz1 hz2 _ _ _ _ [1, c, s] [k, a, b, x, y] (by rfl) hOw (by rfl) hRd (by simp) (by have h7 := hS.2.1; omega) (fun a5 c5 w5 ho5 hg5 => ?_)
      have hSx := SB.grown hS hg5 (fun k hk => Nat.le_trans (by simp) (hlt k hk).1) (fun e => by have h7 := (hlt _ e).1; omega)
      clear hlt
      refine hK.out _ _ hSx ?_
      try simp only [Act.put, List.setIfInBounds_toArray, List.set_cons_zero, List.set_cons_succ]
      clear hK K hS hSx
      refine restS_take (v := ?_) 9 rfl (by kernel_rfl) (by kernel_rfl) (by kernel_rfl) (fun _ _ _ h => h) (by rfl) ?_ ?_
      rotate_left
      · intro w9 h9; try dsimp only at h9
        go_split_ands
        go_simp; try with_reducible rfl
      try simp only [Act.put, List.setIfInBounds_toArray, List.set_cons_zero, List.set_cons_succ]
      refine restS_done (by kernel_rfl) (fun hS => ?_)
      go_wp2_with fail
      go_ret
      refine ⟨a5, c5, ?_, ho5.lower (by simp), hS.1⟩
      rfl
    · skip
      go_wp2_with fail
      refine (c_spec_OpRow k a b x y _ yk ya yb yx yy hO).mono ?_
      rintro e w4 ⟨a4, c4, rfl, ho4, hb4⟩
      go_wp2_with fail
      have hSx := SB.step hS hb4
      have hRd := ho4.read
      refine hK.out _ _ hSx ?_
      try simp only [Act.put, List.setIfInBounds_toArray, List.set_cons_zero, List.set_cons_succ]
      clear hK K hS hSx
      refine restS_alone 4 rfl (by kernel_rfl) (by rfl) (fun hS K hK => ?_)
      go_wp2_with fail
      have hOw := SB.lit hS (w.heap.size + 1) 2 [1, c, s] (by omega) (by simp) (by simp [k1, yc, ys])
      have hSx := SB.alloc hS (.cells (([1, c, s] : List Int).map (Value.int .i64)).toArray 2)
      replace hRd := hRd.below ((Below.refl _ _).alloc (Nat.le_refl _) (.cells (([1, c, s] : List Int).map (Value.int .i64)).toArray 2))
      refine hK.out _ _ hSx ?_
      try simp only [Act.put, List.setIfInBounds_toArray, List.set_cons_zero, List.set_cons_succ]
      clear hK K hS hSx
      refine restS_alone 8 rfl (by kernel_rfl) (by rfl) (fun hS K hK => ?_)
      have hlt := hOw.2.2.lt
      refine wpo_append_ints _ _ _ (by rfl) (w.heap.size + 1) 2 i0 Try.underlying22 hi hz0 hz1 hz2 _ _ _ _ [1, c, s] [k, a, b, x, y] (by rfl) hOw (by rfl) hRd (by simp) (by have h7 := hS.2.1; omega) (fun a5 c5 w5 ho5 hg5 => ?_)
      have hSx := SB.grown hS hg5 (fun k hk => Nat.le_trans (by simp) (hlt k hk).1) (fun e => by have h7 := (hlt _ e).1; omega)
      clear hlt
      refine hK.out _ _ hSx ?_
      try simp only [Act.put, List.setIfInBounds_toArray, List.set_cons_zero, List.set_cons_succ]
      clear hK K hS hSx
      refine restS_take (v := ?_) 9 rfl (by kernel_rfl) (by kernel_rfl) (by kernel_rfl) (fun _ _ _ h => h) (by rfl) ?_ ?_
      rotate_left
      · intro w9 h9; try dsimp only at h9
        go_split_ands
        go_simp; try with_reducible rfl
      try simp only [Act.put, List.setIfInBounds_toArray, List.set_cons_zero, List.set_cons_succ]
      refine restS_done (by kernel_rfl) (fun hS => ?_)
      go_wp2_with fail
      go_ret
      refine ⟨a5, c5, ?_, ho5.lower (by simp), hS.1⟩
      rfl
theorem c_kindOf_Ask (c s k a b x y : Int) (w : World) : Calls Try.prog 149 #[.iface 86 (.agg #[.int .i64 c, .int .i64 s, .int .i64 k, .int .i64 a, .int .i64 b, .int .i64 x, .int .i64 y])] w fun e w' => e = .returned (.int .i64 1) ∧ w = w' := by

  have yes := @ta_yes Try.prog 86 179 _ Try.underlying86 rfl
  go_enter Try.func149, Try.ntmps149
  go_wp2
  go_ret
  exact ⟨rfl, rfl⟩
theorem c_Ask_valid (c s k a b x y : Int) (w : World) : Calls Try.prog 208 #[.agg #[.int .i64 c, .int .i64 s, .int .i64 k, .int .i64 a, .int .i64 b, .int .i64 x, .int .i64 y]] w fun e w' => e = .returned (.bool (askOk c s k a b x y)) ∧ Below w.heap.size w w' := by
  go_enter Try.func208, Try.ntmps208
  go_wp2_with (first | (go_at_call 209; refine (c_impl_AskOk _ _ _ _ _ _ _ _).mono ?_; rintro e w1 ⟨rfl, hb⟩; obtain ⟨hc, hf, hsz⟩ := bcell hb; have hz := hb.size; (try simp at hz)))
  go_ret
  exact ⟨rfl, by (repeat (first | with_reducible exact Below.refl _ _ | ((with_reducible refine bl_alloc ?_ ?_); (focus (first | (simp; done) | (simp; omega) | omega))) | ((with_reducible refine bl_set ?_ ?_); (focus (first | (simp; done) | (simp; omega) | omega))) | ((with_reducible refine bl_later ?_ ?_); (focus (first | (simp; done) | (simp; omega) | omega))) | with_reducible refine bl_drew ?_ | with_reducible refine bl_drewN ?_ | ((with_reducible refine bl_step (by assumption) ?_ ?_); (focus (first | (simp; done) | (simp; omega) | omega)))))⟩
theorem c_Ask_fields (c s k a b x y : Int) (w : World) (yc : inI64 c) (ys : inI64 s) (yk : inI64 k) (ya : inI64 a) (yb : inI64 b) (yx : inI64 x) (yy : inI64 y) : Calls Try.prog 207 #[.agg #[.int .i64 c, .int .i64 s, .int .i64 k, .int .i64 a, .int .i64 b, .int .i64 x, .int .i64 y]] w (RetI w 2 [c, s, k, a, b, x, y]) := by
  obtain ⟨i0, hi, hz0, hz1, hz2⟩ := info_parts info_int64
  go_enter Try.func207, Try.ntmps207
  go_wp2_with fail
  refine restS_begin (SB w w.heap.size [.int .i64 c, .int .i64 s, .int .i64 k, .int .i64 a, .int .i64 b, .int .i64 x, .int .i64 y]) (by kernel_rfl) (SB.start ((Below.refl _ _).alloc (Nat.le_refl _) _) (Bx.new w [.int .i64 c, .int .i64 s, .int .i64 k, .int .i64 a, .int .i64 b, .int .i64 x, .int .i64 y] 86)) ?_
  refine restS_take (v := ?_) 0 rfl (by kernel_rfl) (by kernel_rfl) (by kernel_rfl) (fun _ _ _ h => h) (by rfl) ?_ ?_
  rotate_left
  · intro w9 h9; try dsimp only at h9
    go_split_ands
    go_simp; try with_reducible rfl
  try simp only [Act.put, List.setIfInBounds_toArray, List.set_cons_zero, List.set_cons_succ]
  refine restS_take (v := ?_) 1 rfl (by kernel_rfl) (by kernel_rfl) (by kernel_rfl) (fun _ _ _ h => h) (by rfl) ?_ ?_
  rotate_left
  · intro w9 h9; obtain ⟨h8, h9⟩ := h9; obtain ⟨x9, rfl⟩ := later_of h8; replace h9 := h9.2; clear h8
    go_simp; try with_reducible rfl
  try simp only [Act.put, List.setIfInBounds_toArray, List.set_cons_zero, List.set_cons_succ]
  refine restS_take (v := ?_) 2 rfl (by kernel_rfl) (by kernel_rfl) (by kernel_rfl) (fun _ _ _ h => h) (by rfl) ?_ ?_
  rotate_left
  · intro w9 h9; try dsimp only at h9
    go_split_ands
    go_simp; try with_reducible rfl
  try simp only [Act.put, List.setIfInBounds_toArray, List.set_cons_zero, List.set_cons_succ]
  refine restS_take (v := ?_) 3 rfl (by kernel_rfl) (by kernel_rfl) (by kernel_rfl) (fun _ _ _ h => h) (by rfl) ?_ ?_
  rotate_left
  · intro w9 h9; obtain ⟨h8, h9⟩ := h9; obtain ⟨x9, rfl⟩ := later_of h8; replace h9 := h9.2; clear h8
    go_simp; try with_reducible rfl
  try simp only [Act.put, List.setIfInBounds_toArray, List.set_cons_zero, List.set_cons_succ]
  refine restS_take (v := ?_) 5 rfl (by kernel_rfl) (by kernel_rfl) (by kernel_rfl) (fun _ _ _ h => h) (by rfl) ?_ ?_
  rotate_left
  · intro w9 h9; try dsimp only at h9
    go_split_ands
    go_simp; try with_reducible rfl
  try simp only [Act.put, List.setIfInBounds_toArray, List.set_cons_zero, List.set_cons_succ]
  refine restS_take (v := ?_) 6 rfl (by kernel_rfl) (by kernel_rfl) (by kernel_rfl) (fun _ _ _ h => h) (by rfl) ?_ ?_
  rotate_left
  · intro w9 h9; obtain ⟨h8, h9⟩ := h9; obtain ⟨x9, rfl⟩ := later_of h8; replace h9 := h9.2; clear h8
    go_simp; try with_reducible rfl
  try simp only [Act.put, List.setIfInBounds_toArray, List.set_cons_zero, List.set_cons_succ]
  refine restS_two 4 7 rfl rfl (by kernel_rfl) (by rfl) (by rfl) (fun hS K hK => ?_) (fun hS K hK => ?_)
  · skip
    go_wp2_with fail
    have hOw := SB.lit hS (w.heap.size + 1) 2 [c, s] (by omega) (by simp) (by simp [yc, ys])
    simp only [World.size_drew, World.size_alloc] at hOw
    have hSx := SB.alloc hS (.cells (([c, s] : List Int).map (Value.int .i64)).toArray 2)
    refine hK.out _ _ hSx ?_
    try simp only [Act.put, List.setIfInBounds_toArray, List.set_cons_zero, List.set_cons_succ]
    clear hK K hS hSx
    refine restS_alone 7 rfl (by kernel_rfl) (by rfl) (fun hS K hK => ?_)
    go_wp2_with fail
    refine (c_impl_Op_numbers k a b x y _ yk ya yb yx yy).mono ?_
    rintro e w4 ⟨a4, c4, rfl, ho4, hb4⟩
    go_wp2_with fail
    have hSx := SB.step hS hb4
    have hRd := ho4.read
    replace hOw := hOw.below hb4
    refine hK.out _ _ hSx ?_
    try simp only [Act.put, List.setIfInBounds_toArray, List.set_cons_zero, List.set_cons_succ]
    clear hK K hS hSx
    refine restS_alone 8 rfl (by kernel_rfl) (by rfl) (fun hS K hK => ?_)
    have hlt := hOw.2.2.lt
    refine wpo_append_ints _ _ _ (by rfl) (w.heap.size + 1) 2 i0 Try.underlying22 hi hz0 hz1 hz2 _ _ _ _ [c, s] [k, a, b, x, y] (by rfl) hOw (by rfl) hRd (by simp) (by have h7 := hS.2.1; omega) (fun a5 c5 w5 ho5 hg5 => ?_)
    have hSx := SB.grown hS hg5 (fun k hk => Nat.le_trans (by simp) (hlt k hk).1) (fun e => by have h7 := (hlt _ e).1; omega)
    clear hlt
    refine hK.out _ _ hSx ?_
    try simp only [Act.put, List.setIfInBounds_toArray, List.set_cons_zero, List.set_cons_succ]
    clear hK K hS hSx
    refine restS_take (v := ?_) 9 rfl (by kernel_rfl) (by kernel_rfl) (by kernel_rfl) (fun _ _ _ h => h) (by rfl) ?_ ?_
    rotate_left
    · intro w9 h9; try dsimp only at h9
      go_split_ands
      go_simp; try with_reducible rfl
    try simp only [Act.put, List.setIfInBounds_toArray, List.set_cons_zero, List.set_cons_succ]
    refine restS_done (by kernel_rfl) (fun hS => ?_)
    go_wp2_with fail
    go_ret
    refine ⟨a5, c5, ?_, ho5.lower (by simp), hS.1⟩
    rfl
  · skip
    go_wp2_with fail
    refine (c_impl_Op_numbers k a b x y _ yk ya yb yx yy).mono ?_
    rintro e w4 ⟨a4, c4, rfl, ho4, hb4⟩
    go_wp2_with fail
    have hSx := SB.step hS hb4
    have hRd := ho4.read
    refine hK.out _ _ hSx ?_
    try simp only [Act.put, List.setIfInBounds_toArray, List.set_cons_zero, List.set_cons_succ]
    clear hK K hS hSx
    refine restS_alone 4 rfl (by kernel_rfl) (by rfl) (fun hS K hK => ?_)
    go_wp2_with fail
    have hOw := SB.lit hS (w.heap.size + 1) 2 [c, s] (by omega) (by simp) (by simp [yc, ys])
    have hSx := SB.alloc hS (.cells (([c, s] : List Int).map (Value.int .i64)).toArray 2)
    replace hRd := hRd.below ((Below.refl _ _).alloc (Nat.le_refl _) (.cells (([c, s] : List Int).map (Value.int .i64)).toArray 2))
    refine hK.out _ _ hSx ?_
    try simp only [Act.put, List.setIfInBounds_toArray, List.set_cons_zero, List.set_cons_succ]
    clear hK K hS hSx
    refine restS_alone 8 rfl (by kernel_rfl) (by rfl) (fun hS K hK => ?_)
    have hlt := hOw.2.2.lt
    refine wpo_append_ints _ _ _ (by rfl) (w.heap.size + 1) 2 i0 Try.underlying22 hi hz0 hz1 hz2 _ _ _ _ [c, s] [k, a, b, x, y] (by rfl) hOw (by rfl) hRd (by simp) (by have h7 := hS.2.1; omega) (fun a5 c5 w5 ho5 hg5 => ?_)
    have hSx := SB.grown hS hg5 (fun k hk => Nat.le_trans (by simp) (hlt k hk).1) (fun e => by have h7 := (hlt _ e).1; omega)
    clear hlt
    refine hK.out _ _ hSx ?_
    try simp only [Act.put, List.setIfInBounds_toArray, List.set_cons_zero, List.set_cons_succ]
    clear hK K hS hSx
    refine restS_take (v := ?_) 9 rfl (by kernel_rfl) (by kernel_rfl) (by kernel_rfl) (fun _ _ _ h => h) (by rfl) ?_ ?_
    rotate_left
    · intro w9 h9; try dsimp only at h9
      go_split_ands
      go_simp; try with_reducible rfl
    try simp only [Act.put, List.setIfInBounds_toArray, List.set_cons_zero, List.set_cons_succ]
    refine restS_done (by kernel_rfl) (fun hS => ?_)
    go_wp2_with fail
    go_ret
    refine ⟨a5, c5, ?_, ho5.lower (by simp), hS.1⟩
    rfl
theorem c_encoded_Ask (c s k a b x y : Int) (w : World) (yc : inI64 c) (ys : inI64 s) (yk : inI64 k) (ya : inI64 a) (yb : inI64 b) (yx : inI64 x) (yy : inI64 y) : Calls Try.prog 97 #[.iface 86 (.agg #[.int .i64 c, .int .i64 s, .int .i64 k, .int .i64 a, .int .i64 b, .int .i64 x, .int .i64 y])] w (RetI w 2 (rowAsk c s k a b x y)) := by
  obtain ⟨i0, hi, hz0, hz1, hz2⟩ := info_parts info_int64
  cases hE : (askOk c s k a b x y)
  all_goals
    go_enter Try.func97, Try.ntmps97
    go_wp2_with fail
    rw [run_method_direct (f := 208)]
    rotate_left
    · kernel_rfl
    go_wp2_with fail
    refine (c_Ask_valid _ _ _ _ _ _ _ _).mono ?_
    rintro e w1 ⟨rfl, hb1⟩
    have hs1 := hb1.size
    rw [hE]
    go_wp2_with fail
  · rw [rowAsk_f hE]
    go_ret
    exact ⟨_, _, rfl, owns_nil w1 _ _, hb1⟩
  · refine (c_kindOf_Ask _ _ _ _ _ _ _ _).mono ?_
    rintro e w1 ⟨rfl, rfl⟩
    go_wp2_with fail
    rw [run_method_direct (f := 207)]
    rotate_left
    · kernel_rfl
    go_wp2_with fail
    refine (c_Ask_fields _ _ _ _ _ _ _ _ yc ys yk ya yb yx yy).mono ?_
    rintro e w2 ⟨a2, c2, rfl, ho2, hb2⟩
    have ho1 := (owns_lit w1 w.heap.size 2 [1] hs1 (by simp) (by simp [inI64]))
    have Ho1 : Hid (IntsO w2 w.heap.size 2 (.slice (some ⟨w1.heap.size, 0, none⟩) [(1 : Int)].length 1) [1]) := ⟨ho1.1, ho1.2.1, owns_below ho1.2.2 hb2⟩
    have Ho2 := Lib.hid ho2.read
    have hz := hb2.size
    clear ho1 ho2
    go_wp2_with (at_builtin; refine wpList_append_ints rfl _ _ _ rfl w.heap.size 2 i0 Try.underlying22 hi hz0 hz1 hz2 _ _ _ _ [1] [c, s, k, a, b, x, y] rfl Ho1.out rfl Ho2.out (by simp) (by simp at hz; omega) (fun a3 c3 w3 ho3 hg3 => ?_))
    go_ret
    rw [rowAsk_t hE]
    exact ⟨a3, c3, rfl, ho3, (bl_step hb2 (by simp; omega) (by (repeat (first | with_reducible exact Below.refl _ _ | ((with_reducible refine bl_alloc ?_ ?_); (focus (first | (simp; done) | (simp; omega) | omega))) | ((with_reducible refine bl_set ?_ ?_); (focus (first | (simp; done) | (simp; omega) | omega))) | ((with_reducible refine bl_later ?_ ?_); (focus (first | (simp; done) | (simp; omega) | omega))) | with_reducible refine bl_drew ?_ | with_reducible refine bl_drewN ?_ | ((with_reducible refine bl_step (by assumption) ?_ ?_); (focus (first | (simp; done) | (simp; omega) | omega))))))).grown hg3 (by simp at hz; omega) (by simp [Value.ownBlock]; omega)⟩
theorem c_impl_AskRow (c s k a b x y : Int) (w : World) (yc : inI64 c) (ys : inI64 s) (yk : inI64 k) (ya : inI64 a) (yb : inI64 b) (yx : inI64 x) (yy : inI64 y) : Calls Try.prog 71 #[.agg #[.int .i64 c, .int .i64 s, .int .i64 k, .int .i64 a, .int .i64 b, .int .i64 x, .int .i64 y]] w (RetI w 2 (rowAsk c s k a b x y)) := by
  go_enter Try.func71, Try.ntmps71
  go_wp2_with fail
  refine (c_encoded_Ask _ _ _ _ _ _ _ _ yc ys yk ya yb yx yy).mono ?_
  rintro e w1 ⟨a1, c1, rfl, ho1, hb1⟩
  go_wp2_with fail
  go_ret
  exact ⟨a1, c1, rfl, ho1.lower (by simp), bl_step hb1 (by simp) (by (repeat (first | with_reducible exact Below.refl _ _ | ((with_reducible refine bl_alloc ?_ ?_); (focus (first | (simp; done) | (simp; omega) | omega))) | ((with_reducible refine bl_set ?_ ?_); (focus (first | (simp; done) | (simp; omega) | omega))) | ((with_reducible refine bl_later ?_ ?_); (focus (first | (simp; done) | (simp; omega) | omega))) | with_reducible refine bl_drew ?_ | with_reducible refine bl_drewN ?_ | ((with_reducible refine bl_step (by assumption) ?_ ?_); (focus (first | (simp; done) | (simp; omega) | omega))))))⟩
theorem c_law_AskRow (c s k a b x y : Int) (w : World) (yc : inI64 c) (ys : inI64 s) (yk : inI64 k) (ya : inI64 a) (yb : inI64 b) (yx : inI64 x) (yy : inI64 y) : Calls Try.prog 17 #[.agg #[.int .i64 c, .int .i64 s, .int .i64 k, .int .i64 a, .int .i64 b, .int .i64 x, .int .i64 y]] w fun e w' => e = .returned (.bool true) ∧ Below w.heap.size w w' := by
  have hL : (rowAsk c s k a b x y).length ≤ 1000 := by unfold rowAsk; split <;> simp
  go_enter Try.func17, Try.ntmps17
  go_wp2_with fail
  have Bt := Bx.new w [.int .i64 c, .int .i64 s, .int .i64 k, .int .i64 a, .int .i64 b, .int .i64 x, .int .i64 y] 83
  have hb0 : Below w.heap.size w (w.alloc (.cells ([.int .i64 c, .int .i64 s, .int .i64 k, .int .i64 a, .int .i64 b, .int .i64 x, .int .i64 y] : List Value).toArray 83)) := by (repeat (first | with_reducible exact Below.refl _ _ | ((with_reducible refine bl_alloc ?_ ?_); (focus (first | (simp; done) | (simp; omega) | omega))) | ((with_reducible refine bl_set ?_ ?_); (focus (first | (simp; done) | (simp; omega) | omega))) | ((with_reducible refine bl_later ?_ ?_); (focus (first | (simp; done) | (simp; omega) | omega))) | with_reducible refine bl_drew ?_ | with_reducible refine bl_drewN ?_ | ((with_reducible refine bl_step (by assumption) ?_ ?_); (focus (first | (simp; done) | (simp; omega) | omega)))))
  refine (c_laws_toAsk _ _ _ _ _ _ _ _).mono ?_
  rintro e w1 ⟨rfl, hb1⟩
  replace Bt := Bt.below hb1
  replace hb0 := bl_step hb1 hb0.size hb0
  clear hb1
  go_wp2_with fail
  refine (c_spec_AskRow _ _ _ _ _ _ _ _ yc ys yk ya yb yx yy).mono ?_
  rintro e w2 ⟨a2, c2, rfl, ho2, hb2⟩
  have hbt := Bt.1
  have hlt2 := ho2.2.2.lt
  have hs0 := hb0.size
  have hs2 := hb2.size
  replace Bt := Bt.below hb2
  replace hb0 := bl_step hb2 hb0.size hb0
  clear hb2
  have hcell := Bt.2
  go_wp2_with fail
  refine (c_laws_toAsk _ _ _ _ _ _ _ _).mono ?_
  rintro e w3 ⟨rfl, hb3⟩
  have hs3 := hb3.size
  replace Bt := Bt.below hb3
  replace hb0 := bl_step hb3 hb0.size hb0
  replace ho2 := ho2.below hb3
  clear hb3 hcell
  go_wp2_with fail
  refine (c_impl_AskRow _ _ _ _ _ _ _ _ yc ys yk ya yb yx yy).mono ?_
  rintro e w4 ⟨a4, c4, rfl, ho4, hb4⟩
  have hlt4 := ho4.2.2.lt
  have hs4 := hb4.size
  replace Bt := Bt.below hb4
  replace hb0 := bl_step hb4 hb0.size hb0
  replace ho2 := ho2.below hb4
  clear hb4
  go_wp2_with fail
  refine (c_eqInt64S _ _ _ _ _ _ _ ho4.read ho2.read).mono ?_
  rintro e w5 ⟨rfl, hb5⟩
  have hs5 := hb5.size
  replace Bt := Bt.below hb5
  replace hb0 := bl_step hb5 hb0.size hb0
  replace ho2 := ho2.below hb5
  replace ho4 := ho4.below hb5
  clear hb5
  go_wp2_with fail
  refine (c_laws_markInt64S _ _ _ _ _ _ ho4 (by omega) (by omega) (by omega)).mono ?_
  rintro e w6 ⟨rfl, ho6, hg6, hz6⟩
  replace ho2 := ho2.kept (B := w3.heap.size) (fun k hk => Nat.lt_of_lt_of_le (hlt2 k hk).2 hs3) (fun k hk => (hlt4 k hk).1) hg6
  replace hb0 := hb0.grown hg6 hb0.size (fun k hk => Nat.le_trans (Nat.le_trans hs0 (Nat.le_trans hs2 hs3)) (hlt4 k hk).1)
  replace Bt := Bt.grown hg6 (fun e => by have := (hlt4 _ e).1; omega)
  clear ho4 hg6
  have Hz6 := Lib.hid hz6
  clear hz6
  have hcell := Bt.2
  go_wp2_with fail
  refine (c_laws_heldInt64S _ _ _ _ _ (read_seqI ho6) (by omega) (by omega) (by omega)).mono ?_
  rintro e w6 ⟨rfl, rfl⟩
  go_wp2_with fail
  refine (c_laws_toAsk _ _ _ _ _ _ _ _).mono ?_
  rintro e w7 ⟨rfl, hb7⟩
  replace hb0 := bl_step hb7 hb0.size hb0
  replace ho2 := ho2.below hb7
  replace ho6 := ho6.below hb7
  clear hb7 hcell
  go_wp2_with fail
  refine (c_impl_AskRow _ _ _ _ _ _ _ _ yc ys yk ya yb yx yy).mono ?_
  rintro e w8 ⟨a8, c8, rfl, ho8, hb8⟩
  replace hb0 := bl_step hb8 hb0.size hb0
  replace ho2 := ho2.below hb8
  replace ho6 := ho6.below hb8
  clear hb8
  go_wp2_with fail
  refine (c_eqInt64S _ _ _ _ _ _ _ ho8.read ho2.read).mono ?_
  rintro e w9 ⟨rfl, hb9⟩
  replace hb0 := bl_step hb9 hb0.size hb0
  replace ho6 := ho6.below hb9
  clear hb9
  go_wp2_with fail
  refine (c_laws_heldInt64S _ _ _ _ _ (read_seqI ho6) (by omega) (by omega) (by omega)).mono ?_
  rintro e w9 ⟨rfl, rfl⟩
  go_wp2_with fail
  go_ret
  exact ⟨rfl, hb0⟩

end Go.Proofs.Ytpfkfppooeikeaa
