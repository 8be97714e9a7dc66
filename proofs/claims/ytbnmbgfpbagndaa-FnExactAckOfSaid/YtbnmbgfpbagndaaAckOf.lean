/- Walks of functions of the program, printed by a program of the prover. -/
import Derived.Test.YtbnmbgfpbagndaaLeaf
import Derived.WalkKit
import Derived.WalkSpells
import Derived.Deep.QuietTactic
import Derived.BigQuiet
import Derived.Deep.Light
namespace Go.Proofs.Ytbnmbgfpbagndaa
open Go.RowKit
set_option maxHeartbeats 400000

def keepIf (b : Bool) (x : Int) : Int := if b then x else 0
theorem keepIf_t {b : Bool} {x : Int} (h : (!b) = false) : keepIf b x = x := by simp at h; simp [keepIf, h]
theorem keepIf_f {b : Bool} {x : Int} (h : (!b) = true) : keepIf b x = 0 := by simp at h; simp [keepIf, h]
def entryOk (i t c s k a b x y : Int) : Bool := inB i 1 2000 && (inB t 0 1000000 && (inB c 2 5 && (inB s 1 2000 && opOk k a b x y)))
theorem c_laws_toEntry (i t c s k a b x y : Int) (w : World) : Calls Try.prog 31 #[.agg #[.int .i64 i, .int .i64 t, .int .i64 c, .int .i64 s, .int .i64 k, .int .i64 a, .int .i64 b, .int .i64 x, .int .i64 y]] w fun e w' => e = .returned (.agg #[.int .i64 i, .int .i64 t, .int .i64 c, .int .i64 s, .int .i64 k, .int .i64 a, .int .i64 b, .int .i64 x, .int .i64 y]) ∧ Below w.heap.size w w' := by
  go_enter Try.func31, Try.ntmps31
  go_wp2_with (first | (go_at_call 54; refine (c_laws_toOp _ _ _ _ _ _).mono ?_; rintro e w' ⟨rfl, hb⟩; obtain ⟨hc, hf, hs⟩ := bcell hb; have hz := hb.size; (try simp at hz)))
  refine bodyPost_ret (v := .agg #[.int .i64 i, .int .i64 t, .int .i64 c, .int .i64 s, .int .i64 k, .int .i64 a, .int .i64 b, .int .i64 x, .int .i64 y]) (by simp [results, Try.results31, go_sem, *]) rfl ⟨rfl, ?_⟩
  (repeat (first | with_reducible exact Below.refl _ _ | ((with_reducible refine bl_alloc ?_ ?_); (focus (first | (simp; done) | (simp; omega) | omega))) | ((with_reducible refine bl_set ?_ ?_); (focus (first | (simp; done) | (simp; omega) | omega))) | with_reducible refine bl_drew ?_ | with_reducible refine bl_drewN ?_ | ((with_reducible refine bl_step (by assumption) ?_ ?_); (focus (first | (simp; done) | (simp; omega) | omega)))))

theorem c_spec_EntryOk (i t c s k a b x y : Int) (w : World) : Calls Try.prog 57 #[.agg #[.int .i64 i, .int .i64 t, .int .i64 c, .int .i64 s, .int .i64 k, .int .i64 a, .int .i64 b, .int .i64 x, .int .i64 y]] w fun e w' => e = .returned (.bool (entryOk i t c s k a b x y)) ∧ Below w.heap.size w w' := by
  go_enter Try.func57, Try.ntmps57
  go_wp2_with (first | (go_at_call 49; refine (c_spec_l7Index _ _).mono ?_; rintro e w' ⟨rfl, rfl⟩) | (go_at_call 60; refine (c_spec_TimeOk _ _).mono ?_; rintro e w' ⟨rfl, rfl⟩) | (go_at_call 39; refine (c_spec_AskerOk _ _).mono ?_; rintro e w' ⟨rfl, rfl⟩) | (go_at_call 40; refine (c_spec_l7Seq _ _).mono ?_; rintro e w' ⟨rfl, rfl⟩) | (go_at_call 53; refine (c_spec_OpOk _ _ _ _ _ _).mono ?_; rintro e w' ⟨rfl, hb⟩; obtain ⟨hc, hf, hs⟩ := bcell hb; have hz := hb.size; (try simp at hz)))
  all_goals go_ret
  all_goals (refine ⟨by simp [entryOk, *], ?_⟩; (repeat (first | with_reducible exact Below.refl _ _ | ((with_reducible refine bl_alloc ?_ ?_); (focus (first | (simp; done) | (simp; omega) | omega))) | ((with_reducible refine bl_set ?_ ?_); (focus (first | (simp; done) | (simp; omega) | omega))) | with_reducible refine bl_drew ?_ | with_reducible refine bl_drewN ?_ | ((with_reducible refine bl_step (by assumption) ?_ ?_); (focus (first | (simp; done) | (simp; omega) | omega))))))

theorem c_impl_EntryOk (i t c s k a b x y : Int) (w : World) : Calls Try.prog 58 #[.agg #[.int .i64 i, .int .i64 t, .int .i64 c, .int .i64 s, .int .i64 k, .int .i64 a, .int .i64 b, .int .i64 x, .int .i64 y]] w fun e w' => e = .returned (.bool (entryOk i t c s k a b x y)) ∧ Below w.heap.size w w' := by
  go_enter Try.func58, Try.ntmps58
  go_wp2_with (first | (go_at_call 50; refine (c_impl_indexOk _ _).mono ?_; rintro e w' ⟨rfl, rfl⟩) | (go_at_call 64; refine (c_impl_TimeOk _ _).mono ?_; rintro e w' ⟨rfl, rfl⟩) | (go_at_call 43; refine (c_impl_AskerOk _ _).mono ?_; rintro e w' ⟨rfl, rfl⟩) | (go_at_call 44; refine (c_impl_seqOk _ _).mono ?_; rintro e w' ⟨rfl, rfl⟩) | (go_at_call 55; refine (c_impl_OpOk _ _ _ _ _ _).mono ?_; rintro e w' ⟨rfl, hb⟩; obtain ⟨hc, hf, hs⟩ := bcell hb; have hz := hb.size; (try simp at hz)))
  all_goals go_ret
  all_goals (refine ⟨by simp [entryOk, *], ?_⟩; (repeat (first | with_reducible exact Below.refl _ _ | ((with_reducible refine bl_alloc ?_ ?_); (focus (first | (simp; done) | (simp; omega) | omega))) | ((with_reducible refine bl_set ?_ ?_); (focus (first | (simp; done) | (simp; omega) | omega))) | with_reducible refine bl_drew ?_ | with_reducible refine bl_drewN ?_ | ((with_reducible refine bl_step (by assumption) ?_ ?_); (focus (first | (simp; done) | (simp; omega) | omega))))))

theorem c_spec_AckOf (i t c s k a b x y : Int) (w : World) : Calls Try.prog 30 #[.agg #[.int .i64 i, .int .i64 t, .int .i64 c, .int .i64 s, .int .i64 k, .int .i64 a, .int .i64 b, .int .i64 x, .int .i64 y]] w fun e w' => e = .returned (.agg #[.int .i64 (keepIf (entryOk i t c s k a b x y) c), .int .i64 (keepIf (entryOk i t c s k a b x y) s), .int .i64 (keepIf (entryOk i t c s k a b x y) i), .int .i64 (keepIf (entryOk i t c s k a b x y) s)]) ∧ Below w.heap.size w w' := by
  cases hE : entryOk i t c s k a b x y
  · go_enter Try.func30, Try.ntmps30
    go_wp2_with (first | (go_at_call 57; refine (c_spec_EntryOk _ _ _ _ _ _ _ _ _ _).mono ?_; rintro e w' ⟨rfl, hb⟩; obtain ⟨hc, hf, hs⟩ := bcell hb; have hz := hb.size; (try simp at hz)))
    refine bodyPost_ret (v := .agg #[.int .i64 0, .int .i64 0, .int .i64 0, .int .i64 0]) (by simp [results, Try.results30, go_sem, *]) rfl ⟨by simp [keepIf], ?_⟩
    (repeat (first | with_reducible exact Below.refl _ _ | ((with_reducible refine bl_alloc ?_ ?_); (focus (first | (simp; done) | (simp; omega) | omega))) | ((with_reducible refine bl_set ?_ ?_); (focus (first | (simp; done) | (simp; omega) | omega))) | with_reducible refine bl_drew ?_ | with_reducible refine bl_drewN ?_ | ((with_reducible refine bl_step (by assumption) ?_ ?_); (focus (first | (simp; done) | (simp; omega) | omega)))))
  · go_enter Try.func30, Try.ntmps30
    go_wp2_with (first | (go_at_call 57; refine (c_spec_EntryOk _ _ _ _ _ _ _ _ _ _).mono ?_; rintro e w' ⟨rfl, hb⟩; obtain ⟨hc, hf, hs⟩ := bcell hb; have hz := hb.size; (try simp at hz)))
    refine bodyPost_ret (v := .agg #[.int .i64 c, .int .i64 s, .int .i64 i, .int .i64 s]) (by simp [results, Try.results30, go_sem, *]) rfl ⟨by simp [keepIf], ?_⟩
    (repeat (first | with_reducible exact Below.refl _ _ | ((with_reducible refine bl_alloc ?_ ?_); (focus (first | (simp; done) | (simp; omega) | omega))) | ((with_reducible refine bl_set ?_ ?_); (focus (first | (simp; done) | (simp; omega) | omega))) | with_reducible refine bl_drew ?_ | with_reducible refine bl_drewN ?_ | ((with_reducible refine bl_step (by assumption) ?_ ?_); (focus (first | (simp; done) | (simp; omega) | omega)))))

theorem c_impl_AckOf (i t c s k a b x y : Int) (w : World) : Calls Try.prog 32 #[.agg #[.int .i64 i, .int .i64 t, .int .i64 c, .int .i64 s, .int .i64 k, .int .i64 a, .int .i64 b, .int .i64 x, .int .i64 y]] w fun e w' => e = .returned (.agg #[.int .i64 (keepIf (entryOk i t c s k a b x y) c), .int .i64 (keepIf (entryOk i t c s k a b x y) s), .int .i64 (keepIf (entryOk i t c s k a b x y) i), .int .i64 (keepIf (entryOk i t c s k a b x y) s)]) ∧ Below w.heap.size w w' := by
  cases hE : entryOk i t c s k a b x y
  · go_enter Try.func32, Try.ntmps32
    go_wp2_with (first | (go_at_call 58; refine (c_impl_EntryOk _ _ _ _ _ _ _ _ _ _).mono ?_; rintro e w' ⟨rfl, hb⟩; obtain ⟨hc, hf, hs⟩ := bcell hb; have hz := hb.size; (try simp at hz)))
    refine bodyPost_ret (v := .agg #[.int .i64 0, .int .i64 0, .int .i64 0, .int .i64 0]) (by simp [results, Try.results32, go_sem, *]) rfl ⟨by simp [keepIf], ?_⟩
    (repeat (first | with_reducible exact Below.refl _ _ | ((with_reducible refine bl_alloc ?_ ?_); (focus (first | (simp; done) | (simp; omega) | omega))) | ((with_reducible refine bl_set ?_ ?_); (focus (first | (simp; done) | (simp; omega) | omega))) | with_reducible refine bl_drew ?_ | with_reducible refine bl_drewN ?_ | ((with_reducible refine bl_step (by assumption) ?_ ?_); (focus (first | (simp; done) | (simp; omega) | omega)))))
  · go_enter Try.func32, Try.ntmps32
    go_wp2_with (first | (go_at_call 58; refine (c_impl_EntryOk _ _ _ _ _ _ _ _ _ _).mono ?_; rintro e w' ⟨rfl, hb⟩; obtain ⟨hc, hf, hs⟩ := bcell hb; have hz := hb.size; (try simp at hz)))
    refine bodyPost_ret (v := .agg #[.int .i64 c, .int .i64 s, .int .i64 i, .int .i64 s]) (by simp [results, Try.results32, go_sem, *]) rfl ⟨by simp [keepIf], ?_⟩
    (repeat (first | with_reducible exact Below.refl _ _ | ((with_reducible refine bl_alloc ?_ ?_); (focus (first | (simp; done) | (simp; omega) | omega))) | ((with_reducible refine bl_set ?_ ?_); (focus (first | (simp; done) | (simp; omega) | omega))) | with_reducible refine bl_drew ?_ | with_reducible refine bl_drewN ?_ | ((with_reducible refine bl_step (by assumption) ?_ ?_); (focus (first | (simp; done) | (simp; omega) | omega)))))

theorem c_laws_eqAck (c s i l c2 s2 i2 l2 : Int) (w : World) : Calls Try.prog 33 #[.agg #[.int .i64 c, .int .i64 s, .int .i64 i, .int .i64 l], .agg #[.int .i64 c2, .int .i64 s2, .int .i64 i2, .int .i64 l2]] w fun e w' => e = .returned (.bool (c == c2 && s == s2 && i == i2 && l == l2)) ∧ Below w.heap.size w w' := by
  go_enter Try.func33, Try.ntmps33
  go_wp2
  all_goals go_ret
  all_goals (go_light; refine ⟨by simp_all, ?_⟩; (repeat (first | with_reducible exact Below.refl _ _ | ((with_reducible refine bl_alloc ?_ ?_); (focus (first | (simp; done) | (simp; omega) | omega))) | ((with_reducible refine bl_set ?_ ?_); (focus (first | (simp; done) | (simp; omega) | omega))) | with_reducible refine bl_drew ?_ | with_reducible refine bl_drewN ?_ | ((with_reducible refine bl_step (by assumption) ?_ ?_); (focus (first | (simp; done) | (simp; omega) | omega))))))

theorem c_laws_FnExactAckOf (i t c s k a b x y : Int) (w : World) : Calls Try.prog 9 #[.agg #[.int .i64 i, .int .i64 t, .int .i64 c, .int .i64 s, .int .i64 k, .int .i64 a, .int .i64 b, .int .i64 x, .int .i64 y]] w fun e w' => e = .returned (.bool true) ∧ Below w.heap.size w w' := by
  go_enter Try.func9, Try.ntmps9
  go_wp2_with fail
  refine (c_laws_toEntry _ _ _ _ _ _ _ _ _ _).mono ?_
  rintro e w1 ⟨rfl, hb1⟩
  have hz1 := hb1.size; (try simp at hz1); have hc1_0 := fun (o : Nat) => hb1.cell (p := ⟨w.heap.size, o, none⟩) (by (first | (simp; done) | (simp; omega) | omega)); have hq1_0 : w.heap.size < w1.heap.size := (by omega); have hr1_0 : w.heap.size ≤ w1.heap.size := (by omega)
  go_wp2_with fail
  refine (c_spec_AckOf _ _ _ _ _ _ _ _ _ _).mono ?_
  rintro e w2 ⟨rfl, hb2⟩
  have hz2 := hb2.size; (try simp at hz2); have hc2_0 := fun (o : Nat) => hb2.cell (p := ⟨w.heap.size, o, none⟩) (by (first | (simp; done) | (simp; omega) | omega)); have hq2_0 : w.heap.size < w2.heap.size := (by omega); have hr2_0 : w.heap.size ≤ w2.heap.size := (by omega)
  go_wp2_with fail
  refine (c_laws_toEntry _ _ _ _ _ _ _ _ _ _).mono ?_
  rintro e w3 ⟨rfl, hb3⟩
  have hz3 := hb3.size; (try simp at hz3); have hc3_0 := fun (o : Nat) => hb3.cell (p := ⟨w.heap.size, o, none⟩) (by (first | (simp; done) | (simp; omega) | omega)); have hq3_0 : w.heap.size < w3.heap.size := (by omega); have hr3_0 : w.heap.size ≤ w3.heap.size := (by omega); have hc3_1 := fun (o : Nat) => hb3.cell (p := ⟨w2.heap.size, o, none⟩) (by (first | (simp; done) | (simp; omega) | omega)); have hq3_1 : w2.heap.size < w3.heap.size := (by omega); have hr3_1 : w2.heap.size ≤ w3.heap.size := (by omega)
  go_wp2_with fail
  refine (c_impl_AckOf _ _ _ _ _ _ _ _ _ _).mono ?_
  rintro e w4 ⟨rfl, hb4⟩
  have hz4 := hb4.size; (try simp at hz4); have hc4_0 := fun (o : Nat) => hb4.cell (p := ⟨w.heap.size, o, none⟩) (by (first | (simp; done) | (simp; omega) | omega)); have hq4_0 : w.heap.size < w4.heap.size := (by omega); have hr4_0 : w.heap.size ≤ w4.heap.size := (by omega); have hc4_1 := fun (o : Nat) => hb4.cell (p := ⟨w2.heap.size, o, none⟩) (by (first | (simp; done) | (simp; omega) | omega)); have hq4_1 : w2.heap.size < w4.heap.size := (by omega); have hr4_1 : w2.heap.size ≤ w4.heap.size := (by omega)
  go_wp2_with fail
  refine (c_laws_eqAck _ _ _ _ _ _ _ _ _).mono ?_
  rintro e w5 ⟨rfl, hb5⟩
  have hz5 := hb5.size; (try simp at hz5); have hc5_0 := fun (o : Nat) => hb5.cell (p := ⟨w.heap.size, o, none⟩) (by (first | (simp; done) | (simp; omega) | omega)); have hq5_0 : w.heap.size < w5.heap.size := (by omega); have hr5_0 : w.heap.size ≤ w5.heap.size := (by omega); have hc5_1 := fun (o : Nat) => hb5.cell (p := ⟨w2.heap.size, o, none⟩) (by (first | (simp; done) | (simp; omega) | omega)); have hq5_1 : w2.heap.size < w5.heap.size := (by omega); have hr5_1 : w2.heap.size ≤ w5.heap.size := (by omega); have hc5_2 := fun (o : Nat) => hb5.cell (p := ⟨w4.heap.size, o, none⟩) (by (first | (simp; done) | (simp; omega) | omega)); have hq5_2 : w4.heap.size < w5.heap.size := (by omega); have hr5_2 : w4.heap.size ≤ w5.heap.size := (by omega)
  go_wp2_with fail
  go_ret
  refine ⟨by simp, ?_⟩
  (repeat (first | with_reducible exact Below.refl _ _ | ((with_reducible refine bl_alloc ?_ ?_); (focus (first | (simp; done) | (simp; omega) | omega))) | ((with_reducible refine bl_set ?_ ?_); (focus (first | (simp; done) | (simp; omega) | omega))) | with_reducible refine bl_drew ?_ | with_reducible refine bl_drewN ?_ | ((with_reducible refine bl_step (by assumption) ?_ ?_); (focus (first | (simp; done) | (simp; omega) | omega)))))
end Go.Proofs.Ytbnmbgfpbagndaa
