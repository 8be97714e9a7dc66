/- Letters of one number: fetch, trim, poll. -/
import Derived.Test.YtpfkfppooeikeaaMarks
import Derived.Test.YtpfkfppooeikeaaIface
import Derived.Test.YtpfkfppooeikeaaApp
namespace Go.Proofs.Ytpfkfppooeikeaa
open Go.RowKit
set_option maxHeartbeats 400000
set_option maxRecDepth 100000

def oneRow (kind x lo hi : Int) : List Int := if inB x lo hi then [kind, x] else []
theorem oneRow_t {kind x lo hi : Int} (h : inB x lo hi = true) : oneRow kind x lo hi = [kind, x] := by simp [oneRow, h]
theorem oneRow_f {kind x lo hi : Int} (h : inB x lo hi = false) : oneRow kind x lo hi = [] := by simp [oneRow, h]
theorem owns_lit (w : World) (lo ty : Nat) (l : List Int) (hb : lo ≤ w.heap.size) (hl : l.length ≤ 1099511627776) (hin : ∀ x ∈ l, inI64 x) :
    IntsO (w.alloc (.cells (l.map (Value.int .i64)).toArray ty)) lo ty (.slice (some ⟨w.heap.size, 0, none⟩) l.length l.length) l := by
  refine ⟨hin, by omega, ?_⟩
  have := World.ownsRow_lit (base := lo) (e := ty) (size := 1) w (l.map (Value.int .i64)).toArray l.length hb (by unfold maxLen; omega) (by simp)
  simpa using this
theorem owns_empty (w : World) (lo ty : Nat) (hb : lo ≤ w.heap.size) : IntsO (w.alloc (.cells #[] ty)) lo ty (.slice (some ⟨w.heap.size, 0, none⟩) 0 0) [] := owns_lit w lo ty [] hb (by simp) (by simp)
theorem owns_nil (w : World) (lo ty : Nat) : IntsO w lo ty (.slice none 0 0) [] := ⟨by simp, by simp, World.ownsRow_nil _ _ _ _⟩

theorem c_spec_l11One (kind x lo hi : Int) (w : World) (hk : inI64 kind) (hx : inI64 x) :
    Calls Try.prog 96 #[.int .i64 kind, .int .i64 x, .int .i64 lo, .int .i64 hi] w (RetI w 2 (oneRow kind x lo hi)) := by
  cases hE : inB x lo hi
  · rw [oneRow_f hE]
    go_enter Try.func96, Try.ntmps96
    go_wp2_with (go_at_call 107; refine (c_spec_l1In _ _ _ _).mono ?_; rintro e w' ⟨rfl, rfl⟩)
    go_ret
    exact ⟨_, _, rfl, owns_empty w _ _ (Nat.le_refl _), by (repeat (first | with_reducible exact Below.refl _ _ | ((with_reducible refine bl_alloc ?_ ?_); (focus (first | (simp; done) | (simp; omega) | omega))) | ((with_reducible refine bl_set ?_ ?_); (focus (first | (simp; done) | (simp; omega) | omega))) | ((with_reducible refine bl_later ?_ ?_); (focus (first | (simp; done) | (simp; omega) | omega))) | with_reducible refine bl_drew ?_ | with_reducible refine bl_drewN ?_ | ((with_reducible refine bl_step (by assumption) ?_ ?_); (focus (first | (simp; done) | (simp; omega) | omega)))))⟩
  · rw [oneRow_t hE]
    go_enter Try.func96, Try.ntmps96
    go_wp2_with (go_at_call 107; refine (c_spec_l1In _ _ _ _).mono ?_; rintro e w' ⟨rfl, rfl⟩)
    go_ret
    exact ⟨_, _, rfl, owns_lit w _ _ [kind, x] (Nat.le_refl _) (by simp) (by simp [hk, hx]), by (repeat (first | with_reducible exact Below.refl _ _ | ((with_reducible refine bl_alloc ?_ ?_); (focus (first | (simp; done) | (simp; omega) | omega))) | ((with_reducible refine bl_set ?_ ?_); (focus (first | (simp; done) | (simp; omega) | omega))) | ((with_reducible refine bl_later ?_ ?_); (focus (first | (simp; done) | (simp; omega) | omega))) | with_reducible refine bl_drew ?_ | with_reducible refine bl_drewN ?_ | ((with_reducible refine bl_step (by assumption) ?_ ?_); (focus (first | (simp; done) | (simp; omega) | omega)))))⟩

/-- the tests of a message's type that say no -/
theorem ta_Ask (t : TypeId) (h : t ≠ 86) (xt : TypeId) (v : Value) (w : World) : (Instr.typeAssert (.iface t v) xt 86 true).run Try.prog w = .ok (.tuple #[.agg #[.int .i64 0, .int .i64 0, .int .i64 0, .int .i64 0, .int .i64 0, .int .i64 0, .int .i64 0], .bool false]) w :=
  ta_no Try.underlying86 rfl (fun _ => by kernel_rfl) h v w
theorem ta_Ack (t : TypeId) (h : t ≠ 57) (xt : TypeId) (v : Value) (w : World) : (Instr.typeAssert (.iface t v) xt 57 true).run Try.prog w = .ok (.tuple #[.agg #[.int .i64 0, .int .i64 0, .int .i64 0, .int .i64 0], .bool false]) w :=
  ta_no Try.underlying57 rfl (fun _ => by kernel_rfl) h v w
theorem ta_fetch (t : TypeId) (h : t ≠ 123) (xt : TypeId) (v : Value) (w : World) : (Instr.typeAssert (.iface t v) xt 123 true).run Try.prog w = .ok (.tuple #[.int .i64 0, .bool false]) w :=
  ta_no Try.underlying123 rfl (fun _ => by kernel_rfl) h v w
theorem ta_Feed (t : TypeId) (h : t ≠ 44) (xt : TypeId) (v : Value) (w : World) : (Instr.typeAssert (.iface t v) xt 44 true).run Try.prog w = .ok (.tuple #[.agg #[.int .i64 0, .int .i64 0, .slice none 0 0], .bool false]) w :=
  ta_no Try.underlying44 rfl (fun _ => by kernel_rfl) h v w
theorem ta_trim (t : TypeId) (h : t ≠ 124) (xt : TypeId) (v : Value) (w : World) : (Instr.typeAssert (.iface t v) xt 124 true).run Try.prog w = .ok (.tuple #[.int .i64 0, .bool false]) w :=
  ta_no Try.underlying124 rfl (fun _ => by kernel_rfl) h v w
theorem ta_Read (t : TypeId) (h : t ≠ 34) (xt : TypeId) (v : Value) (w : World) : (Instr.typeAssert (.iface t v) xt 34 true).run Try.prog w = .ok (.tuple #[.agg #[.int .i64 0, .int .i64 0, .int .i64 0, .int .i64 0], .bool false]) w :=
  ta_no Try.underlying34 rfl (fun _ => by kernel_rfl) h v w
theorem ta_Value (t : TypeId) (h : t ≠ 51) (xt : TypeId) (v : Value) (w : World) : (Instr.typeAssert (.iface t v) xt 51 true).run Try.prog w = .ok (.tuple #[.agg #[.int .i64 0, .int .i64 0, .int .i64 0, .int .i64 0, .int .i64 0], .bool false]) w :=
  ta_no Try.underlying51 rfl (fun _ => by kernel_rfl) h v w
theorem ta_poll (t : TypeId) (h : t ≠ 125) (xt : TypeId) (v : Value) (w : World) : (Instr.typeAssert (.iface t v) xt 125 true).run Try.prog w = .ok (.tuple #[.int .i64 0, .bool false]) w :=
  ta_no Try.underlying125 rfl (fun _ => by kernel_rfl) h v w
theorem c_kindOf_fetch (x : Int) (w : World) : Calls Try.prog 149 #[.iface 123 (.int .i64 x)] w fun e w' => e = .returned (.int .i64 3) ∧ w = w' := by
  have n_Ask := ta_Ask 123 (by decide)
  have n_Ack := ta_Ack 123 (by decide)
  have yes := @ta_yes Try.prog 123 179 _ Try.underlying123 rfl
  go_enter Try.func149, Try.ntmps149
  go_wp2
  go_ret
  exact ⟨rfl, rfl⟩
theorem c_kindOf_trim (x : Int) (w : World) : Calls Try.prog 149 #[.iface 124 (.int .i64 x)] w fun e w' => e = .returned (.int .i64 5) ∧ w = w' := by
  have n_Ask := ta_Ask 124 (by decide)
  have n_Ack := ta_Ack 124 (by decide)
  have n_fetch := ta_fetch 124 (by decide)
  have n_Feed := ta_Feed 124 (by decide)
  have yes := @ta_yes Try.prog 124 179 _ Try.underlying124 rfl
  go_enter Try.func149, Try.ntmps149
  go_wp2
  go_ret
  exact ⟨rfl, rfl⟩
theorem c_kindOf_poll (x : Int) (w : World) : Calls Try.prog 149 #[.iface 125 (.int .i64 x)] w fun e w' => e = .returned (.int .i64 8) ∧ w = w' := by
  have n_Ask := ta_Ask 125 (by decide)
  have n_Ack := ta_Ack 125 (by decide)
  have n_fetch := ta_fetch 125 (by decide)
  have n_Feed := ta_Feed 125 (by decide)
  have n_trim := ta_trim 125 (by decide)
  have n_Read := ta_Read 125 (by decide)
  have n_Value := ta_Value 125 (by decide)
  have yes := @ta_yes Try.prog 125 179 _ Try.underlying125 rfl
  go_enter Try.func149, Try.ntmps149
  go_wp2
  go_ret
  exact ⟨rfl, rfl⟩
theorem c_fetch_valid (x : Int) (w : World) : Calls Try.prog 216 #[.int .i64 x] w fun e w' => e = .returned (.bool (inB x 1 2001)) ∧ w = w' := by
  go_enter Try.func216, Try.ntmps216
  go_wp2_with (go_at_call 110; refine (c_impl_between _ _ _ _).mono ?_; rintro e w' ⟨rfl, rfl⟩)
  go_ret
  exact ⟨rfl, rfl⟩
theorem c_fetch_fields (x : Int) (w : World) (hx : inI64 x) : Calls Try.prog 215 #[.int .i64 x] w (RetI w 2 [x]) := by
  go_enter Try.func215, Try.ntmps215
  go_wp2
  go_ret
  exact ⟨_, _, rfl, owns_lit w _ _ [x] (Nat.le_refl _) (by simp) (by simp [hx]), by (repeat (first | with_reducible exact Below.refl _ _ | ((with_reducible refine bl_alloc ?_ ?_); (focus (first | (simp; done) | (simp; omega) | omega))) | ((with_reducible refine bl_set ?_ ?_); (focus (first | (simp; done) | (simp; omega) | omega))) | ((with_reducible refine bl_later ?_ ?_); (focus (first | (simp; done) | (simp; omega) | omega))) | with_reducible refine bl_drew ?_ | with_reducible refine bl_drewN ?_ | ((with_reducible refine bl_step (by assumption) ?_ ?_); (focus (first | (simp; done) | (simp; omega) | omega)))))⟩
theorem c_encoded_fetch (x : Int) (w : World) (hx : inI64 x) : Calls Try.prog 97 #[.iface 123 (.int .i64 x)] w (RetI w 2 (oneRow 3 x 1 2001)) := by
  obtain ⟨i0, hi, hz0, hz1, hz2⟩ := info_parts info_int64
  cases hE : inB x 1 2001
  all_goals
    go_enter Try.func97, Try.ntmps97
    go_wp2_with fail
    rw [run_method_direct (f := 216)]
    rotate_left
    · kernel_rfl
    go_wp2_with (go_at_call 216; refine (c_fetch_valid _ _).mono ?_; rintro e w' ⟨rfl, rfl⟩)
  · rw [oneRow_f hE]
    go_ret
    exact ⟨_, _, rfl, owns_nil w _ _, by (repeat (first | with_reducible exact Below.refl _ _ | ((with_reducible refine bl_alloc ?_ ?_); (focus (first | (simp; done) | (simp; omega) | omega))) | ((with_reducible refine bl_set ?_ ?_); (focus (first | (simp; done) | (simp; omega) | omega))) | ((with_reducible refine bl_later ?_ ?_); (focus (first | (simp; done) | (simp; omega) | omega))) | with_reducible refine bl_drew ?_ | with_reducible refine bl_drewN ?_ | ((with_reducible refine bl_step (by assumption) ?_ ?_); (focus (first | (simp; done) | (simp; omega) | omega)))))⟩
  · refine (c_kindOf_fetch x _).mono ?_
    rintro e w' ⟨rfl, rfl⟩
    go_wp2_with fail
    rw [run_method_direct (f := 215)]
    rotate_left
    · kernel_rfl
    go_wp2_with fail
    refine (c_fetch_fields x _ hx).mono ?_
    rintro e w2 ⟨a2, c2, rfl, ho2, hb2⟩
    have ho1 := (owns_lit w w.heap.size 2 [3] (Nat.le_refl _) (by simp) (by simp [inI64]))
    have Ho1 : Hid (IntsO w2 w.heap.size 2 (.slice (some ⟨w.heap.size, 0, none⟩) [(3 : Int)].length 1) [3]) := ⟨ho1.1, ho1.2.1, owns_below ho1.2.2 hb2⟩
    have Ho2 := Lib.hid ho2.read
    have hz := hb2.size
    clear ho1 ho2
    go_wp2_with (at_builtin; refine wpList_append_ints rfl _ _ _ rfl w.heap.size 2 i0 Try.underlying22 hi hz0 hz1 hz2 _ _ _ _ [3] [x] rfl Ho1.out rfl Ho2.out (by simp) (by simp at hz; omega) (fun a3 c3 w3 ho3 hg3 => ?_))
    go_ret
    rw [oneRow_t hE]
    exact ⟨a3, c3, rfl, ho3, (bl_step hb2 (by simp) (by (repeat (first | with_reducible exact Below.refl _ _ | ((with_reducible refine bl_alloc ?_ ?_); (focus (first | (simp; done) | (simp; omega) | omega))) | ((with_reducible refine bl_set ?_ ?_); (focus (first | (simp; done) | (simp; omega) | omega))) | ((with_reducible refine bl_later ?_ ?_); (focus (first | (simp; done) | (simp; omega) | omega))) | with_reducible refine bl_drew ?_ | with_reducible refine bl_drewN ?_ | ((with_reducible refine bl_step (by assumption) ?_ ?_); (focus (first | (simp; done) | (simp; omega) | omega))))))).grown hg3 (by simp at hz; omega) (by simp [Value.ownBlock])⟩
theorem c_trim_valid (x : Int) (w : World) : Calls Try.prog 218 #[.int .i64 x] w fun e w' => e = .returned (.bool (inB x 1 2000)) ∧ w = w' := by
  go_enter Try.func218, Try.ntmps218
  go_wp2_with (go_at_call 168; refine (c_impl_indexOk _ _).mono ?_; rintro e w' ⟨rfl, rfl⟩)
  go_ret
  exact ⟨rfl, rfl⟩
theorem c_trim_fields (x : Int) (w : World) (hx : inI64 x) : Calls Try.prog 217 #[.int .i64 x] w (RetI w 2 [x]) := by
  go_enter Try.func217, Try.ntmps217
  go_wp2
  go_ret
  exact ⟨_, _, rfl, owns_lit w _ _ [x] (Nat.le_refl _) (by simp) (by simp [hx]), by (repeat (first | with_reducible exact Below.refl _ _ | ((with_reducible refine bl_alloc ?_ ?_); (focus (first | (simp; done) | (simp; omega) | omega))) | ((with_reducible refine bl_set ?_ ?_); (focus (first | (simp; done) | (simp; omega) | omega))) | ((with_reducible refine bl_later ?_ ?_); (focus (first | (simp; done) | (simp; omega) | omega))) | with_reducible refine bl_drew ?_ | with_reducible refine bl_drewN ?_ | ((with_reducible refine bl_step (by assumption) ?_ ?_); (focus (first | (simp; done) | (simp; omega) | omega)))))⟩
theorem c_encoded_trim (x : Int) (w : World) (hx : inI64 x) : Calls Try.prog 97 #[.iface 124 (.int .i64 x)] w (RetI w 2 (oneRow 5 x 1 2000)) := by
  obtain ⟨i0, hi, hz0, hz1, hz2⟩ := info_parts info_int64
  cases hE : inB x 1 2000
  all_goals
    go_enter Try.func97, Try.ntmps97
    go_wp2_with fail
    rw [run_method_direct (f := 218)]
    rotate_left
    · kernel_rfl
    go_wp2_with (go_at_call 218; refine (c_trim_valid _ _).mono ?_; rintro e w' ⟨rfl, rfl⟩)
  · rw [oneRow_f hE]
    go_ret
    exact ⟨_, _, rfl, owns_nil w _ _, by (repeat (first | with_reducible exact Below.refl _ _ | ((with_reducible refine bl_alloc ?_ ?_); (focus (first | (simp; done) | (simp; omega) | omega))) | ((with_reducible refine bl_set ?_ ?_); (focus (first | (simp; done) | (simp; omega) | omega))) | ((with_reducible refine bl_later ?_ ?_); (focus (first | (simp; done) | (simp; omega) | omega))) | with_reducible refine bl_drew ?_ | with_reducible refine bl_drewN ?_ | ((with_reducible refine bl_step (by assumption) ?_ ?_); (focus (first | (simp; done) | (simp; omega) | omega)))))⟩
  · refine (c_kindOf_trim x _).mono ?_
    rintro e w' ⟨rfl, rfl⟩
    go_wp2_with fail
    rw [run_method_direct (f := 217)]
    rotate_left
    · kernel_rfl
    go_wp2_with fail
    refine (c_trim_fields x _ hx).mono ?_
    rintro e w2 ⟨a2, c2, rfl, ho2, hb2⟩
    have ho1 := (owns_lit w w.heap.size 2 [5] (Nat.le_refl _) (by simp) (by simp [inI64]))
    have Ho1 : Hid (IntsO w2 w.heap.size 2 (.slice (some ⟨w.heap.size, 0, none⟩) [(5 : Int)].length 1) [5]) := ⟨ho1.1, ho1.2.1, owns_below ho1.2.2 hb2⟩
    have Ho2 := Lib.hid ho2.read
    have hz := hb2.size
    clear ho1 ho2
    go_wp2_with (at_builtin; refine wpList_append_ints rfl _ _ _ rfl w.heap.size 2 i0 Try.underlying22 hi hz0 hz1 hz2 _ _ _ _ [5] [x] rfl Ho1.out rfl Ho2.out (by simp) (by simp at hz; omega) (fun a3 c3 w3 ho3 hg3 => ?_))
    go_ret
    rw [oneRow_t hE]
    exact ⟨a3, c3, rfl, ho3, (bl_step hb2 (by simp) (by (repeat (first | with_reducible exact Below.refl _ _ | ((with_reducible refine bl_alloc ?_ ?_); (focus (first | (simp; done) | (simp; omega) | omega))) | ((with_reducible refine bl_set ?_ ?_); (focus (first | (simp; done) | (simp; omega) | omega))) | ((with_reducible refine bl_later ?_ ?_); (focus (first | (simp; done) | (simp; omega) | omega))) | with_reducible refine bl_drew ?_ | with_reducible refine bl_drewN ?_ | ((with_reducible refine bl_step (by assumption) ?_ ?_); (focus (first | (simp; done) | (simp; omega) | omega))))))).grown hg3 (by simp at hz; omega) (by simp [Value.ownBlock])⟩
theorem c_impl_schedOk (x : Int) (w : World) : Calls Try.prog 213 #[.int .i64 x] w fun e w' => e = .returned (.bool (inB x 2 3)) ∧ w = w' := by
  go_enter Try.func213, Try.ntmps213
  go_wp2
  all_goals go_ret
  all_goals (go_light; refine ⟨congrArg (fun b => Ending.returned (.bool b)) (by rw [Bool.eq_iff_iff]; simp_all [inB]; try omega), rfl⟩)
theorem c_poll_valid (x : Int) (w : World) : Calls Try.prog 220 #[.int .i64 x] w fun e w' => e = .returned (.bool (inB x 2 3)) ∧ w = w' := by
  go_enter Try.func220, Try.ntmps220
  go_wp2_with (go_at_call 213; refine (c_impl_schedOk _ _).mono ?_; rintro e w' ⟨rfl, rfl⟩)
  go_ret
  exact ⟨rfl, rfl⟩
theorem c_poll_fields (x : Int) (w : World) (hx : inI64 x) : Calls Try.prog 219 #[.int .i64 x] w (RetI w 2 [x]) := by
  go_enter Try.func219, Try.ntmps219
  go_wp2
  go_ret
  exact ⟨_, _, rfl, owns_lit w _ _ [x] (Nat.le_refl _) (by simp) (by simp [hx]), by (repeat (first | with_reducible exact Below.refl _ _ | ((with_reducible refine bl_alloc ?_ ?_); (focus (first | (simp; done) | (simp; omega) | omega))) | ((with_reducible refine bl_set ?_ ?_); (focus (first | (simp; done) | (simp; omega) | omega))) | ((with_reducible refine bl_later ?_ ?_); (focus (first | (simp; done) | (simp; omega) | omega))) | with_reducible refine bl_drew ?_ | with_reducible refine bl_drewN ?_ | ((with_reducible refine bl_step (by assumption) ?_ ?_); (focus (first | (simp; done) | (simp; omega) | omega)))))⟩
theorem c_encoded_poll (x : Int) (w : World) (hx : inI64 x) : Calls Try.prog 97 #[.iface 125 (.int .i64 x)] w (RetI w 2 (oneRow 8 x 2 3)) := by
  obtain ⟨i0, hi, hz0, hz1, hz2⟩ := info_parts info_int64
  cases hE : inB x 2 3
  all_goals
    go_enter Try.func97, Try.ntmps97
    go_wp2_with fail
    rw [run_method_direct (f := 220)]
    rotate_left
    · kernel_rfl
    go_wp2_with (go_at_call 220; refine (c_poll_valid _ _).mono ?_; rintro e w' ⟨rfl, rfl⟩)
  · rw [oneRow_f hE]
    go_ret
    exact ⟨_, _, rfl, owns_nil w _ _, by (repeat (first | with_reducible exact Below.refl _ _ | ((with_reducible refine bl_alloc ?_ ?_); (focus (first | (simp; done) | (simp; omega) | omega))) | ((with_reducible refine bl_set ?_ ?_); (focus (first | (simp; done) | (simp; omega) | omega))) | ((with_reducible refine bl_later ?_ ?_); (focus (first | (simp; done) | (simp; omega) | omega))) | with_reducible refine bl_drew ?_ | with_reducible refine bl_drewN ?_ | ((with_reducible refine bl_step (by assumption) ?_ ?_); (focus (first | (simp; done) | (simp; omega) | omega)))))⟩
  · refine (c_kindOf_poll x _).mono ?_
    rintro e w' ⟨rfl, rfl⟩
    go_wp2_with fail
    rw [run_method_direct (f := 219)]
    rotate_left
    · kernel_rfl
    go_wp2_with fail
    refine (c_poll_fields x _ hx).mono ?_
    rintro e w2 ⟨a2, c2, rfl, ho2, hb2⟩
    have ho1 := (owns_lit w w.heap.size 2 [8] (Nat.le_refl _) (by simp) (by simp [inI64]))
    have Ho1 : Hid (IntsO w2 w.heap.size 2 (.slice (some ⟨w.heap.size, 0, none⟩) [(8 : Int)].length 1) [8]) := ⟨ho1.1, ho1.2.1, owns_below ho1.2.2 hb2⟩
    have Ho2 := Lib.hid ho2.read
    have hz := hb2.size
    clear ho1 ho2
    go_wp2_with (at_builtin; refine wpList_append_ints rfl _ _ _ rfl w.heap.size 2 i0 Try.underlying22 hi hz0 hz1 hz2 _ _ _ _ [8] [x] rfl Ho1.out rfl Ho2.out (by simp) (by simp at hz; omega) (fun a3 c3 w3 ho3 hg3 => ?_))
    go_ret
    rw [oneRow_t hE]
    exact ⟨a3, c3, rfl, ho3, (bl_step hb2 (by simp) (by (repeat (first | with_reducible exact Below.refl _ _ | ((with_reducible refine bl_alloc ?_ ?_); (focus (first | (simp; done) | (simp; omega) | omega))) | ((with_reducible refine bl_set ?_ ?_); (focus (first | (simp; done) | (simp; omega) | omega))) | ((with_reducible refine bl_later ?_ ?_); (focus (first | (simp; done) | (simp; omega) | omega))) | with_reducible refine bl_drew ?_ | with_reducible refine bl_drewN ?_ | ((with_reducible refine bl_step (by assumption) ?_ ?_); (focus (first | (simp; done) | (simp; omega) | omega))))))).grown hg3 (by simp at hz; omega) (by simp [Value.ownBlock])⟩
end Go.Proofs.Ytpfkfppooeikeaa
