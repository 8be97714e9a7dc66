/- Walks of functions of the program, printed by a program of the prover. -/
import Derived.Test.YtpfkfppooeikeaaOne
import Derived.Test.YtpfkfppooeikeaaBx
import Derived.Test.YtpfkfppooeikeaaLeaf2
namespace Go.Proofs.Ytpfkfppooeikeaa
open Go.RowKit
set_option maxHeartbeats 400000
set_option maxRecDepth 100000
def rowValue (c s i h v : Int) : List Int := if valueOk c s i h v then [7, c, s, i, h, v] else []
theorem rowValue_t {c s i h v : Int} (h9 : (valueOk c s i h v) = true) : rowValue c s i h v = [7, c, s, i, h, v] := by unfold rowValue; rw [h9]; rfl
theorem rowValue_f {c s i h v : Int} (h9 : (valueOk c s i h v) = false) : rowValue c s i h v = [] := by unfold rowValue; rw [h9]; rfl
theorem c_spec_ValueRow (c s i h v : Int) (w : World) (yc : inI64 c) (ys : inI64 s) (yi : inI64 i) (yh : inI64 h) (yv : inI64 v) : Calls Try.prog 49 #[.agg #[.int .i64 c, .int .i64 s, .int .i64 i, .int .i64 h, .int .i64 v]] w (RetI w 2 (rowValue c s i h v)) := by
  cases hE : (valueOk c s i h v)
  · rw [rowValue_f hE]
    go_enter Try.func49, Try.ntmps49
    go_wp2_with (first | (go_at_call 113; refine (c_spec_ValueOk _ _ _ _ _ _).mono ?_; rintro e w1 ⟨rfl, hb⟩; obtain ⟨hc, hf, hsz⟩ := bcell hb; have hz := hb.size; (try simp at hz)))
    go_ret
    exact ⟨_, _, rfl, owns_empty w1 _ _ (by omega), by (repeat (first | with_reducible exact Below.refl _ _ | ((with_reducible refine bl_alloc ?_ ?_); (focus (first | (simp; done) | (simp; omega) | omega))) | ((with_reducible refine bl_set ?_ ?_); (focus (first | (simp; done) | (simp; omega) | omega))) | ((with_reducible refine bl_later ?_ ?_); (focus (first | (simp; done) | (simp; omega) | omega))) | with_reducible refine bl_drew ?_ | with_reducible refine bl_drewN ?_ | ((with_reducible refine bl_step (by assumption) ?_ ?_); (focus (first | (simp; done) | (simp; omega) | omega)))))⟩
  · rw [rowValue_t hE]
    go_enter Try.func49, Try.ntmps49
    go_wp2_with (first | (go_at_call 113; refine (c_spec_ValueOk _ _ _ _ _ _).mono ?_; rintro e w1 ⟨rfl, hb⟩; obtain ⟨hc, hf, hsz⟩ := bcell hb; have hz := hb.size; (try simp at hz)))
    go_ret
    exact ⟨_, _, rfl, owns_lit w1 _ _ [7, c, s, i, h, v] (by omega) (by simp) (by have k9 : inI64 7 := (by simp [inI64]); simp [k9, yc, ys, yi, yh, yv]), by (repeat (first | with_reducible exact Below.refl _ _ | ((with_reducible refine bl_alloc ?_ ?_); (focus (first | (simp; done) | (simp; omega) | omega))) | ((with_reducible refine bl_set ?_ ?_); (focus (first | (simp; done) | (simp; omega) | omega))) | ((with_reducible refine bl_later ?_ ?_); (focus (first | (simp; done) | (simp; omega) | omega))) | with_reducible refine bl_drew ?_ | with_reducible refine bl_drewN ?_ | ((with_reducible refine bl_step (by assumption) ?_ ?_); (focus (first | (simp; done) | (simp; omega) | omega)))))⟩
theorem c_kindOf_Value (c s i h v : Int) (w : World) : Calls Try.prog 149 #[.iface 51 (.agg #[.int .i64 c, .int .i64 s, .int .i64 i, .int .i64 h, .int .i64 v])] w fun e w' => e = .returned (.int .i64 7) ∧ w = w' := by
  have n_Ask := ta_Ask 51 (by decide)
  have n_Ack := ta_Ack 51 (by decide)
  have n_fetch := ta_fetch 51 (by decide)
  have n_Feed := ta_Feed 51 (by decide)
  have n_trim := ta_trim 51 (by decide)
  have n_Read := ta_Read 51 (by decide)
  have yes := @ta_yes Try.prog 51 179 _ Try.underlying51 rfl
  go_enter Try.func149, Try.ntmps149
  go_wp2
  go_ret
  exact ⟨rfl, rfl⟩
theorem c_Value_valid (c s i h v : Int) (w : World) : Calls Try.prog 201 #[.agg #[.int .i64 c, .int .i64 s, .int .i64 i, .int .i64 h, .int .i64 v]] w fun e w' => e = .returned (.bool (valueOk c s i h v)) ∧ Below w.heap.size w w' := by
  go_enter Try.func201, Try.ntmps201
  go_wp2_with (first | (go_at_call 202; refine (c_impl_ValueOk _ _ _ _ _ _).mono ?_; rintro e w1 ⟨rfl, hb⟩; obtain ⟨hc, hf, hsz⟩ := bcell hb; have hz := hb.size; (try simp at hz)))
  go_ret
  exact ⟨rfl, by (repeat (first | with_reducible exact Below.refl _ _ | ((with_reducible refine bl_alloc ?_ ?_); (focus (first | (simp; done) | (simp; omega) | omega))) | ((with_reducible refine bl_set ?_ ?_); (focus (first | (simp; done) | (simp; omega) | omega))) | ((with_reducible refine bl_later ?_ ?_); (focus (first | (simp; done) | (simp; omega) | omega))) | with_reducible refine bl_drew ?_ | with_reducible refine bl_drewN ?_ | ((with_reducible refine bl_step (by assumption) ?_ ?_); (focus (first | (simp; done) | (simp; omega) | omega)))))⟩
theorem c_Value_fields (c s i h v : Int) (w : World) (yc : inI64 c) (ys : inI64 s) (yi : inI64 i) (yh : inI64 h) (yv : inI64 v) : Calls Try.prog 200 #[.agg #[.int .i64 c, .int .i64 s, .int .i64 i, .int .i64 h, .int .i64 v]] w (RetI w 2 [c, s, i, h, v]) := by
  go_enter Try.func200, Try.ntmps200
  go_wp2
  go_ret
  have h9 := owns_lit (w.alloc (.cells ([.int .i64 c, .int .i64 s, .int .i64 i, .int .i64 h, .int .i64 v] : List Value).toArray 51)) w.heap.size 2 [c, s, i, h, v] (by simp) (by simp) (by simp [yc, ys, yi, yh, yv])
  rw [World.size_alloc] at h9
  exact ⟨_, _, rfl, h9, by (repeat (first | with_reducible exact Below.refl _ _ | ((with_reducible refine bl_alloc ?_ ?_); (focus (first | (simp; done) | (simp; omega) | omega))) | ((with_reducible refine bl_set ?_ ?_); (focus (first | (simp; done) | (simp; omega) | omega))) | ((with_reducible refine bl_later ?_ ?_); (focus (first | (simp; done) | (simp; omega) | omega))) | with_reducible refine bl_drew ?_ | with_reducible refine bl_drewN ?_ | ((with_reducible refine bl_step (by assumption) ?_ ?_); (focus (first | (simp; done) | (simp; omega) | omega)))))⟩
theorem c_encoded_Value (c s i h v : Int) (w : World) (yc : inI64 c) (ys : inI64 s) (yi : inI64 i) (yh : inI64 h) (yv : inI64 v) : Calls Try.prog 97 #[.iface 51 (.agg #[.int .i64 c, .int .i64 s, .int .i64 i, .int .i64 h, .int .i64 v])] w (RetI w 2 (rowValue c s i h v)) := by
  obtain ⟨i0, hi, hz0, hz1, hz2⟩ := info_parts info_int64
  cases hE : (valueOk c s i h v)
  all_goals
    go_enter Try.func97, Try.ntmps97
    go_wp2_with fail
    rw [run_method_direct (f := 201)]
    rotate_left
    · kernel_rfl
    go_wp2_with fail
    refine (c_Value_valid _ _ _ _ _ _).mono ?_
    rintro e w1 ⟨rfl, hb1⟩
    have hs1 := hb1.size
    rw [hE]
    go_wp2_with fail
  · rw [rowValue_f hE]
    go_ret
    exact ⟨_, _, rfl, owns_nil w1 _ _, hb1⟩
  · refine (c_kindOf_Value _ _ _ _ _ _).mono ?_
    rintro e w1 ⟨rfl, rfl⟩
    go_wp2_with fail
    rw [run_method_direct (f := 200)]
    rotate_left
    · kernel_rfl
    go_wp2_with fail
    refine (c_Value_fields _ _ _ _ _ _ yc ys yi yh yv).mono ?_
    rintro e w2 ⟨a2, c2, rfl, ho2, hb2⟩
    have ho1 := (owns_lit w1 w.heap.size 2 [7] hs1 (by simp) (by simp [inI64]))
    have Ho1 : Hid (IntsO w2 w.heap.size 2 (.slice (some ⟨w1.heap.size, 0, none⟩) [(7 : Int)].length 1) [7]) := ⟨ho1.1, ho1.2.1, owns_below ho1.2.2 hb2⟩
    have Ho2 := Lib.hid ho2.read
    have hz := hb2.size
    clear ho1 ho2
    go_wp2_with (at_builtin; refine wpList_append_ints rfl _ _ _ rfl w.heap.size 2 i0 Try.underlying22 hi hz0 hz1 hz2 _ _ _ _ [7] [c, s, i, h, v] rfl Ho1.out rfl Ho2.out (by simp) (by simp at hz; omega) (fun a3 c3 w3 ho3 hg3 => ?_))
    go_ret
    rw [rowValue_t hE]
    exact ⟨a3, c3, rfl, ho3, (bl_step hb2 (by simp; omega) (by (repeat (first | with_reducible exact Below.refl _ _ | ((with_reducible refine bl_alloc ?_ ?_); (focus (first | (simp; done) | (simp; omega) | omega))) | ((with_reducible refine bl_set ?_ ?_); (focus (first | (simp; done) | (simp; omega) | omega))) | ((with_reducible refine bl_later ?_ ?_); (focus (first | (simp; done) | (simp; omega) | omega))) | with_reducible refine bl_drew ?_ | with_reducible refine bl_drewN ?_ | ((with_reducible refine bl_step (by assumption) ?_ ?_); (focus (first | (simp; done) | (simp; omega) | omega))))))).grown hg3 (by simp at hz; omega) (by simp [Value.ownBlock]; omega)⟩
theorem c_impl_ValueRow (c s i h v : Int) (w : World) (yc : inI64 c) (ys : inI64 s) (yi : inI64 i) (yh : inI64 h) (yv : inI64 v) : Calls Try.prog 51 #[.agg #[.int .i64 c, .int .i64 s, .int .i64 i, .int .i64 h, .int .i64 v]] w (RetI w 2 (rowValue c s i h v)) := by
  go_enter Try.func51, Try.ntmps51
  go_wp2_with fail
  refine (c_encoded_Value _ _ _ _ _ _ yc ys yi yh yv).mono ?_
  rintro e w1 ⟨a1, c1, rfl, ho1, hb1⟩
  go_wp2_with fail
  go_ret
  exact ⟨a1, c1, rfl, ho1.lower (by simp), bl_step hb1 (by simp) (by (repeat (first | with_reducible exact Below.refl _ _ | ((with_reducible refine bl_alloc ?_ ?_); (focus (first | (simp; done) | (simp; omega) | omega))) | ((with_reducible refine bl_set ?_ ?_); (focus (first | (simp; done) | (simp; omega) | omega))) | ((with_reducible refine bl_later ?_ ?_); (focus (first | (simp; done) | (simp; omega) | omega))) | with_reducible refine bl_drew ?_ | with_reducible refine bl_drewN ?_ | ((with_reducible refine bl_step (by assumption) ?_ ?_); (focus (first | (simp; done) | (simp; omega) | omega))))))⟩
theorem c_law_ValueRow (c s i h v : Int) (w : World) (yc : inI64 c) (ys : inI64 s) (yi : inI64 i) (yh : inI64 h) (yv : inI64 v) : Calls Try.prog 11 #[.agg #[.int .i64 c, .int .i64 s, .int .i64 i, .int .i64 h, .int .i64 v]] w fun e w' => e = .returned (.bool true) ∧ Below w.heap.size w w' := by
  have hL : (rowValue c s i h v).length ≤ 1000 := by unfold rowValue; split <;> simp
  go_enter Try.func11, Try.ntmps11
  go_wp2_with fail
  have Bt := Bx.new w [.int .i64 c, .int .i64 s, .int .i64 i, .int .i64 h, .int .i64 v] 49
  have hb0 : Below w.heap.size w (w.alloc (.cells ([.int .i64 c, .int .i64 s, .int .i64 i, .int .i64 h, .int .i64 v] : List Value).toArray 49)) := by (repeat (first | with_reducible exact Below.refl _ _ | ((with_reducible refine bl_alloc ?_ ?_); (focus (first | (simp; done) | (simp; omega) | omega))) | ((with_reducible refine bl_set ?_ ?_); (focus (first | (simp; done) | (simp; omega) | omega))) | ((with_reducible refine bl_later ?_ ?_); (focus (first | (simp; done) | (simp; omega) | omega))) | with_reducible refine bl_drew ?_ | with_reducible refine bl_drewN ?_ | ((with_reducible refine bl_step (by assumption) ?_ ?_); (focus (first | (simp; done) | (simp; omega) | omega)))))
  refine (c_laws_toValue _ _ _ _ _ _).mono ?_
  rintro e w1 ⟨rfl, hb1⟩
  replace Bt := Bt.below hb1
  replace hb0 := bl_step hb1 hb0.size hb0
  clear hb1
  go_wp2_with fail
  refine (c_spec_ValueRow _ _ _ _ _ _ yc ys yi yh yv).mono ?_
  rintro e w2 ⟨a2, c2, rfl, ho2, hb2⟩
  have hbt := Bt.1
  have hlt2 := ho2.2.2.lt
  have hs0 := hb0.size
  have hs2 := hb2.size
  replace Bt := Bt.below hb2
  replace hb0 := bl_step hb2 hb0.size hb0
  clear hb2
  have hcell := Bt.2
  go_wp2_with fail
  refine (c_laws_toValue _ _ _ _ _ _).mono ?_
  rintro e w3 ⟨rfl, hb3⟩
  have hs3 := hb3.size
  replace Bt := Bt.below hb3
  replace hb0 := bl_step hb3 hb0.size hb0
  replace ho2 := ho2.below hb3
  clear hb3 hcell
  go_wp2_with fail
  refine (c_impl_ValueRow _ _ _ _ _ _ yc ys yi yh yv).mono ?_
  rintro e w4 ⟨a4, c4, rfl, ho4, hb4⟩
  have hlt4 := ho4.2.2.lt
  have hs4 := hb4.size
  replace Bt := Bt.below hb4
  replace hb0 := bl_step hb4 hb0.size hb0
  replace ho2 := ho2.below hb4
  clear hb4
  go_wp2_with fail
  refine (c_eqInt64S _ _ _ _ _ _ _ ho4.read ho2.read).mono ?_
  rintro e w5 ⟨rfl, hb5⟩
  have hs5 := hb5.size
  replace Bt := Bt.below hb5
  replace hb0 := bl_step hb5 hb0.size hb0
  replace ho2 := ho2.below hb5
  replace ho4 := ho4.below hb5
  clear hb5
  go_wp2_with fail
  refine (c_laws_markInt64S _ _ _ _ _ _ ho4 (by omega) (by omega) (by omega)).mono ?_
  rintro e w6 ⟨rfl, ho6, hg6, hz6⟩
  replace ho2 := ho2.kept (B := w3.heap.size) (fun k hk => Nat.lt_of_lt_of_le (hlt2 k hk).2 hs3) (fun k hk => (hlt4 k hk).1) hg6
  replace hb0 := hb0.grown hg6 hb0.size (fun k hk => Nat.le_trans (Nat.le_trans hs0 (Nat.le_trans hs2 hs3)) (hlt4 k hk).1)
  replace Bt := Bt.grown hg6 (fun e => by have := (hlt4 _ e).1; omega)
  clear ho4 hg6
  have Hz6 := Lib.hid hz6
  clear hz6
  have hcell := Bt.2
  go_wp2_with fail
  refine (c_laws_heldInt64S _ _ _ _ _ (read_seqI ho6) (by omega) (by omega) (by omega)).mono ?_
  rintro e w6 ⟨rfl, rfl⟩
  go_wp2_with fail
  refine (c_laws_toValue _ _ _ _ _ _).mono ?_
  rintro e w7 ⟨rfl, hb7⟩
  replace hb0 := bl_step hb7 hb0.size hb0
  replace ho2 := ho2.below hb7
  replace ho6 := ho6.below hb7
  clear hb7 hcell
  go_wp2_with fail
  refine (c_impl_ValueRow _ _ _ _ _ _ yc ys yi yh yv).mono ?_
  rintro e w8 ⟨a8, c8, rfl, ho8, hb8⟩
  replace hb0 := bl_step hb8 hb0.size hb0
  replace ho2 := ho2.below hb8
  replace ho6 := ho6.below hb8
  clear hb8
  go_wp2_with fail
  refine (c_eqInt64S _ _ _ _ _ _ _ ho8.read ho2.read).mono ?_
  rintro e w9 ⟨rfl, hb9⟩
  replace hb0 := bl_step hb9 hb0.size hb0
  replace ho6 := ho6.below hb9
  clear hb9
  go_wp2_with fail
  refine (c_laws_heldInt64S _ _ _ _ _ (read_seqI ho6) (by omega) (by omega) (by omega)).mono ?_
  rintro e w9 ⟨rfl, rfl⟩
  go_wp2_with fail
  go_ret
  exact ⟨rfl, hb0⟩

end Go.Proofs.Ytpfkfppooeikeaa
