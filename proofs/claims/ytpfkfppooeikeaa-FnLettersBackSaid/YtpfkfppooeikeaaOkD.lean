/- Texts of the proof, merged: part 4. -/
import Derived.Test.YtpfkfppooeikeaaOkC
import Derived.Test.YtpfkfppooeikeaaDec
import Derived.Test.YtpfkfppooeikeaaTakeS
import Derived.WalkKit
import Derived.WalkSpells
import Derived.Deep.QuietTactic
import Derived.BigQuiet
import Derived.Deep.Light
import Derived.Lib.Hide
import Derived.Deep.RegionHeld3
import Derived.Test.YtpfkfppooeikeaaOne
import Derived.Test.YtpfkfppooeikeaaBx
import Derived.Test.YtpfkfppooeikeaaTake
/- Walks of functions of the program, printed by a program of the prover. -/
namespace Go.Proofs.Ytpfkfppooeikeaa
open Go.RowKit
set_option maxHeartbeats 1600000
set_option maxRecDepth 100000
theorem c_clos_Read (ao : Option Addr) (cap : Nat) (a b c d : Int) (w : World) (hh : IntsR w ao [a, b, c, d]) :
    Calls Try.prog 118 #[.slice ao 4 cap] w fun e w' => e = .returned (.agg #[.int .i64 a, .int .i64 b, .int .i64 c, .int .i64 d]) ∧ Below w.heap.size w w' := by
  obtain ⟨b0, off, rfl, hbl, hr0, hc⟩ := hh.at (k := 0) (by simp)
  have k0 := hc 0 (by simp)
  have k1 := hc 1 (by simp)
  have k2 := hc 2 (by simp)
  have k3 := hc 3 (by simp)
  simp only [List.getElem_cons_zero, List.getElem_cons_succ, Nat.add_zero] at k0 k1 k2 k3
  clear hc hh
  go_enter Try.func118, Try.ntmps118
  go_wp2_with fail
  refine restS_begin (fun W => W.cell? ⟨b0, off, none⟩ = some (.int .i64 a) ∧ W.cell? ⟨b0, off + 1, none⟩ = some (.int .i64 b) ∧ W.cell? ⟨b0, off + 2, none⟩ = some (.int .i64 c) ∧ W.cell? ⟨b0, off + 3, none⟩ = some (.int .i64 d)) (by kernel_rfl) ?_ ?_
  · exact ⟨(World.cell?_alloc_lt _ _ _ hbl).trans k0, (World.cell?_alloc_lt _ _ _ hbl).trans k1, (World.cell?_alloc_lt _ _ _ hbl).trans k2, (World.cell?_alloc_lt _ _ _ hbl).trans k3⟩
  refine restS_take (v := ?_) 0 rfl (by kernel_rfl) (by kernel_rfl) (by kernel_rfl) (fun _ _ _ h => h) (by rfl) ?_ ?_
  rotate_left
  · intro w9 h9; try dsimp only at h9
    go_split_ands
    go_simp; try with_reducible rfl
  try simp only [Act.put, List.setIfInBounds_toArray, List.set_cons_zero, List.set_cons_succ]
  refine restS_take (v := ?_) 1 rfl (by kernel_rfl) (by kernel_rfl) (by kernel_rfl) (fun _ _ _ h => h) (by rfl) ?_ ?_
  rotate_left
  · intro w9 h9; try dsimp only at h9
    go_split_ands
    go_simp; try with_reducible rfl
  try simp only [Act.put, List.setIfInBounds_toArray, List.set_cons_zero, List.set_cons_succ]
  refine restS_take (v := ?_) 2 rfl (by kernel_rfl) (by kernel_rfl) (by kernel_rfl) (fun _ _ _ h => h) (by rfl) ?_ ?_
  rotate_left
  · intro w9 h9; try dsimp only at h9
    go_split_ands
    go_simp; try with_reducible rfl
  try simp only [Act.put, List.setIfInBounds_toArray, List.set_cons_zero, List.set_cons_succ]
  refine restS_take (v := ?_) 3 rfl (by kernel_rfl) (by kernel_rfl) (by kernel_rfl) (fun _ _ _ h => h) (by rfl) ?_ ?_
  rotate_left
  · intro w9 h9; try dsimp only at h9
    go_split_ands
    go_simp; try with_reducible rfl
  try simp only [Act.put, List.setIfInBounds_toArray, List.set_cons_zero, List.set_cons_succ]
  refine restS_take (v := ?_) 4 rfl (by kernel_rfl) (by kernel_rfl) (by kernel_rfl) (fun _ _ _ h => h) (by rfl) ?_ ?_
  rotate_left
  · intro w9 h9; try dsimp only at h9
    go_split_ands
    go_simp; try with_reducible rfl
  try simp only [Act.put, List.setIfInBounds_toArray, List.set_cons_zero, List.set_cons_succ]
  refine restS_take (v := ?_) 5 rfl (by kernel_rfl) (by kernel_rfl) (by kernel_rfl) (fun _ _ _ h => h) (by rfl) ?_ ?_
  rotate_left
  · intro w9 h9; try dsimp only at h9
    go_split_ands
    go_simp; try with_reducible rfl
  try simp only [Act.put, List.setIfInBounds_toArray, List.set_cons_zero, List.set_cons_succ]
  refine restS_take (v := ?_) 6 rfl (by kernel_rfl) (by kernel_rfl) (by kernel_rfl) (fun _ _ _ h => h) (by rfl) ?_ ?_
  rotate_left
  · intro w9 h9; try dsimp only at h9
    go_split_ands
    go_simp; try with_reducible rfl
  try simp only [Act.put, List.setIfInBounds_toArray, List.set_cons_zero, List.set_cons_succ]
  refine restS_take (v := ?_) 7 rfl (by kernel_rfl) (by kernel_rfl) (by kernel_rfl) (fun _ _ _ h => h) (by rfl) ?_ ?_
  rotate_left
  · intro w9 h9; try dsimp only at h9
    go_split_ands
    go_simp; try with_reducible rfl
  try simp only [Act.put, List.setIfInBounds_toArray, List.set_cons_zero, List.set_cons_succ]
  refine restS_take (v := ?_) 8 rfl (by kernel_rfl) (by kernel_rfl) (by kernel_rfl) (fun _ _ _ h => h) (by rfl) ?_ ?_
  rotate_left
  · intro w9 h9; try dsimp only at h9
    go_split_ands
    go_simp; try with_reducible rfl
  try simp only [Act.put, List.setIfInBounds_toArray, List.set_cons_zero, List.set_cons_succ]
  refine restS_take (v := ?_) 9 rfl (by kernel_rfl) (by kernel_rfl) (by kernel_rfl) (fun _ _ _ h => h) (by rfl) ?_ ?_
  rotate_left
  · intro w9 h9; try dsimp only at h9
    go_split_ands
    go_simp; try with_reducible rfl
  try simp only [Act.put, List.setIfInBounds_toArray, List.set_cons_zero, List.set_cons_succ]
  refine restS_take (v := ?_) 10 rfl (by kernel_rfl) (by kernel_rfl) (by kernel_rfl) (fun _ _ _ h => h) (by rfl) ?_ ?_
  rotate_left
  · intro w9 h9; try dsimp only at h9
    go_split_ands
    go_simp; try with_reducible rfl
  try simp only [Act.put, List.setIfInBounds_toArray, List.set_cons_zero, List.set_cons_succ]
  refine restS_take (v := ?_) 11 rfl (by kernel_rfl) (by kernel_rfl) (by kernel_rfl) (fun _ _ _ h => h) (by rfl) ?_ ?_
  rotate_left
  · intro w9 h9; try dsimp only at h9
    go_split_ands
    go_simp; try with_reducible rfl
  try simp only [Act.put, List.setIfInBounds_toArray, List.set_cons_zero, List.set_cons_succ]
  refine restS_take (v := ?_) 12 rfl (by kernel_rfl) (by kernel_rfl) (by kernel_rfl) (fun _ _ _ h => h) (by rfl) ?_ ?_
  rotate_left
  · intro w9 h9; try dsimp only at h9
    go_split_ands
    go_simp; try with_reducible rfl
  try simp only [Act.put, List.setIfInBounds_toArray, List.set_cons_zero, List.set_cons_succ]
  refine restS_alone 13 rfl (by kernel_rfl) (by rfl) (fun hS K hK => ?_)
  go_wp2_with fail
  refine hK.out _ _ ⟨(World.cell?_alloc_lt _ _ _ hbl).trans k0, (World.cell?_alloc_lt _ _ _ hbl).trans k1, (World.cell?_alloc_lt _ _ _ hbl).trans k2, (World.cell?_alloc_lt _ _ _ hbl).trans k3⟩ ?_
  clear hK K hS
  refine restS_done (by kernel_rfl) (fun hS => ?_)
  go_wp2_with fail
  refine bodyPost_ret (v := .agg #[.int .i64 a, .int .i64 b, .int .i64 c, .int .i64 d]) (by simp [results, Try.results118, go_sem, *]) rfl ⟨rfl, ?_⟩
  (repeat (first | with_reducible exact Below.refl _ _ | ((with_reducible refine bl_alloc ?_ ?_); (focus (first | (simp; done) | (simp; omega) | omega))) | ((with_reducible refine bl_set ?_ ?_); (focus (first | (simp; done) | (simp; omega) | omega))) | ((with_reducible refine bl_later ?_ ?_); (focus (first | (simp; done) | (simp; omega) | omega))) | with_reducible refine bl_drew ?_ | with_reducible refine bl_drewN ?_ | ((with_reducible refine bl_step (by assumption) ?_ ?_); (focus (first | (simp; done) | (simp; omega) | omega)))))
def isRead (l : List Int) : Bool := isB l 6 5 && (inB (l.getD 1 0) 2 5 && inB (l.getD 2 0) 1 2000 && inB (l.getD 3 0) 0 9 && inB (l.getD 4 0) 0 2000)
def partsRead (l : List Int) : List Int := if isRead l then l.tail else [0, 0, 0, 0]
theorem c_spec_RowRead (ao : Option Addr) (cap : Nat) (l : List Int) (w : World) (hh : IntsR w ao l) :
    Calls Try.prog 60 #[.slice ao l.length cap] w fun e w' => e = .returned (.tuple #[.agg ((partsRead l).map (Value.int .i64)).toArray, .bool (isRead l)]) ∧ Below w.heap.size w w' := by
  have hm := hh.2.1
  have h' : ∀ W, Below w.heap.size w W → IntsR W ao l := fun W hb => hh.below hb
  cases hi1 : isB l 6 5
  · have e1 : isRead l = false := by simp [isRead, hi1]
    have e2 : partsRead l = [0, 0, 0, 0] := by simp [partsRead, e1]
    rw [e1, e2]
    simp only [List.map_cons, List.map_nil]
    go_enter Try.func60, Try.ntmps60
    go_wp2_with (go_at_call 116; refine (c_spec_l11Is _ _ 5 _ _ _ (h' _ (by (repeat (first | with_reducible exact Below.refl _ _ | ((with_reducible refine bl_alloc ?_ ?_); (focus (first | (simp; done) | (simp; omega) | omega))) | ((with_reducible refine bl_set ?_ ?_); (focus (first | (simp; done) | (simp; omega) | omega))) | ((with_reducible refine bl_later ?_ ?_); (focus (first | (simp; done) | (simp; omega) | omega))) | with_reducible refine bl_drew ?_ | with_reducible refine bl_drewN ?_ | ((with_reducible refine bl_step (by assumption) ?_ ?_); (focus (first | (simp; done) | (simp; omega) | omega))))))) (by omega) (by omega)).mono ?_; rintro e w' ⟨rfl, rfl⟩)
    refine bodyPost_ret (v := .tuple #[.agg #[.int .i64 0, .int .i64 0, .int .i64 0, .int .i64 0], .bool false]) (by simp [results, Try.results60, go_sem, *]) rfl ⟨rfl, ?_⟩
    (repeat (first | with_reducible exact Below.refl _ _ | ((with_reducible refine bl_alloc ?_ ?_); (focus (first | (simp; done) | (simp; omega) | omega))) | ((with_reducible refine bl_set ?_ ?_); (focus (first | (simp; done) | (simp; omega) | omega))) | ((with_reducible refine bl_later ?_ ?_); (focus (first | (simp; done) | (simp; omega) | omega))) | with_reducible refine bl_drew ?_ | with_reducible refine bl_drewN ?_ | ((with_reducible refine bl_step (by assumption) ?_ ?_); (focus (first | (simp; done) | (simp; omega) | omega)))))
  · obtain ⟨x0, a, b, c, d, rfl⟩ : ∃ x0 a b c d, l = [x0, a, b, c, d] := by
      have hl : l.length = 5 := by simp [isB] at hi1; exact hi1.1
      match l, hl with | [x0, a, b, c, d], _ => exact ⟨x0, a, b, c, d, rfl⟩
    obtain ⟨b0, off, rfl, hbl, hr0, hc⟩ := hh.at (k := 1) (by simp)
    have k1 := hc 1 (by simp)
    have k2 := hc 2 (by simp)
    have k3 := hc 3 (by simp)
    have k4 := hc 4 (by simp)
    clear hc
    simp only [List.getElem_cons_succ, List.getElem_cons_zero, List.length_cons, List.length_nil, Nat.zero_add, Nat.reduceAdd] at k1 k2 k3 k4 hr0 hm hh h' ⊢
    cases hE : (inB a 2 5 && inB b 1 2000 && inB c 0 9 && inB d 0 2000)
    · have e1 : isRead [x0, a, b, c, d] = false := by simp only [isRead, hi1, Bool.true_and]; exact hE
      have e2 : partsRead [x0, a, b, c, d] = [0, 0, 0, 0] := by simp [partsRead, e1]
      rw [e1, e2]
      simp only [List.map_cons, List.map_nil]
      go_enter Try.func60, Try.ntmps60
      go_wp2_with (go_at_call 116; refine (c_spec_l11Is _ _ 5 _ [x0, a, b, c, d] _ (h' _ (by (repeat (first | with_reducible exact Below.refl _ _ | ((with_reducible refine bl_alloc ?_ ?_); (focus (first | (simp; done) | (simp; omega) | omega))) | ((with_reducible refine bl_set ?_ ?_); (focus (first | (simp; done) | (simp; omega) | omega))) | ((with_reducible refine bl_later ?_ ?_); (focus (first | (simp; done) | (simp; omega) | omega))) | with_reducible refine bl_drew ?_ | with_reducible refine bl_drewN ?_ | ((with_reducible refine bl_step (by assumption) ?_ ?_); (focus (first | (simp; done) | (simp; omega) | omega))))))) (by omega) (by omega)).mono ?_; rintro e w' ⟨rfl, rfl⟩)
      refine restS_begin (fun W => W.cell? ⟨b0, off + 1, none⟩ = some (.int .i64 a) ∧ W.cell? ⟨b0, off + 2, none⟩ = some (.int .i64 b) ∧ W.cell? ⟨b0, off + 3, none⟩ = some (.int .i64 c) ∧ W.cell? ⟨b0, off + 4, none⟩ = some (.int .i64 d)) (by kernel_rfl) ?_ ?_
      · exact ⟨(World.cell?_alloc_lt _ _ _ hbl).trans k1, (World.cell?_alloc_lt _ _ _ hbl).trans k2, (World.cell?_alloc_lt _ _ _ hbl).trans k3, (World.cell?_alloc_lt _ _ _ hbl).trans k4⟩
      refine restS_take (v := ?_) 0 rfl (by kernel_rfl) (by kernel_rfl) (by kernel_rfl) (fun _ _ _ h => h) (by rfl) ?_ ?_
      rotate_left
      · intro w9 h9; try dsimp only at h9
        go_split_ands
        go_simp; try with_reducible rfl
      try simp only [Act.put, List.setIfInBounds_toArray, List.set_cons_zero, List.set_cons_succ]
      refine restS_take (v := ?_) 1 rfl (by kernel_rfl) (by kernel_rfl) (by kernel_rfl) (fun _ _ _ h => h) (by rfl) ?_ ?_
      rotate_left
      · intro w9 h9; try dsimp only at h9
        go_split_ands
        go_simp; try with_reducible rfl
      try simp only [Act.put, List.setIfInBounds_toArray, List.set_cons_zero, List.set_cons_succ]
      refine restS_take (v := ?_) 2 rfl (by kernel_rfl) (by kernel_rfl) (by kernel_rfl) (fun _ _ _ h => h) (by rfl) ?_ ?_
      rotate_left
      · intro w9 h9; try dsimp only at h9
        go_split_ands
        go_simp; try with_reducible rfl
      try simp only [Act.put, List.setIfInBounds_toArray, List.set_cons_zero, List.set_cons_succ]
      refine restS_take (v := ?_) 3 rfl (by kernel_rfl) (by kernel_rfl) (by kernel_rfl) (fun _ _ _ h => h) (by rfl) ?_ ?_
      rotate_left
      · intro w9 h9; try dsimp only at h9
        go_split_ands
        go_simp; try with_reducible rfl
      try simp only [Act.put, List.setIfInBounds_toArray, List.set_cons_zero, List.set_cons_succ]
      refine restS_take (v := ?_) 4 rfl (by kernel_rfl) (by kernel_rfl) (by kernel_rfl) (fun _ _ _ h => h) (by rfl) ?_ ?_
      rotate_left
      · intro w9 h9; try dsimp only at h9
        go_split_ands
        go_simp; try with_reducible rfl
      try simp only [Act.put, List.setIfInBounds_toArray, List.set_cons_zero, List.set_cons_succ]
      refine restS_take (v := ?_) 5 rfl (by kernel_rfl) (by kernel_rfl) (by kernel_rfl) (fun _ _ _ h => h) (by rfl) ?_ ?_
      rotate_left
      · intro w9 h9; try dsimp only at h9
        go_split_ands
        go_simp; try with_reducible rfl
      try simp only [Act.put, List.setIfInBounds_toArray, List.set_cons_zero, List.set_cons_succ]
      refine restS_take (v := ?_) 6 rfl (by kernel_rfl) (by kernel_rfl) (by kernel_rfl) (fun _ _ _ h => h) (by rfl) ?_ ?_
      rotate_left
      · intro w9 h9; try dsimp only at h9
        go_split_ands
        go_simp; try with_reducible rfl
      try simp only [Act.put, List.setIfInBounds_toArray, List.set_cons_zero, List.set_cons_succ]
      refine restS_take (v := ?_) 7 rfl (by kernel_rfl) (by kernel_rfl) (by kernel_rfl) (fun _ _ _ h => h) (by rfl) ?_ ?_
      rotate_left
      · intro w9 h9; try dsimp only at h9
        go_split_ands
        go_simp; try with_reducible rfl
      try simp only [Act.put, List.setIfInBounds_toArray, List.set_cons_zero, List.set_cons_succ]
      refine restS_take (v := ?_) 8 rfl (by kernel_rfl) (by kernel_rfl) (by kernel_rfl) (fun _ _ _ h => h) (by rfl) ?_ ?_
      rotate_left
      · intro w9 h9; try dsimp only at h9
        go_split_ands
        go_simp; try with_reducible rfl
      try simp only [Act.put, List.setIfInBounds_toArray, List.set_cons_zero, List.set_cons_succ]
      refine restS_take (v := ?_) 9 rfl (by kernel_rfl) (by kernel_rfl) (by kernel_rfl) (fun _ _ _ h => h) (by rfl) ?_ ?_
      rotate_left
      · intro w9 h9; try dsimp only at h9
        go_split_ands
        go_simp; try with_reducible rfl
      try simp only [Act.put, List.setIfInBounds_toArray, List.set_cons_zero, List.set_cons_succ]
      refine restS_take (v := ?_) 10 rfl (by kernel_rfl) (by kernel_rfl) (by kernel_rfl) (fun _ _ _ h => h) (by rfl) ?_ ?_
      rotate_left
      · intro w9 h9; try dsimp only at h9
        go_split_ands
        go_simp; try with_reducible rfl
      try simp only [Act.put, List.setIfInBounds_toArray, List.set_cons_zero, List.set_cons_succ]
      refine restS_take (v := ?_) 11 rfl (by kernel_rfl) (by kernel_rfl) (by kernel_rfl) (fun _ _ _ h => h) (by rfl) ?_ ?_
      rotate_left
      · intro w9 h9; try dsimp only at h9
        go_split_ands
        go_simp; try with_reducible rfl
      try simp only [Act.put, List.setIfInBounds_toArray, List.set_cons_zero, List.set_cons_succ]
      refine restS_take (v := ?_) 12 rfl (by kernel_rfl) (by kernel_rfl) (by kernel_rfl) (fun _ _ _ h => h) (by rfl) ?_ ?_
      rotate_left
      · intro w9 h9; try dsimp only at h9
        go_split_ands
        go_simp; try with_reducible rfl
      try simp only [Act.put, List.setIfInBounds_toArray, List.set_cons_zero, List.set_cons_succ]
      refine restS_alone 13 rfl (by kernel_rfl) (by rfl) (fun hS K hK => ?_)
      go_wp2_with fail
      refine hK.out _ _ ⟨(World.cell?_alloc_lt _ _ _ (by simp; omega)).trans ((World.cell?_alloc_lt _ _ _ hbl).trans k1), (World.cell?_alloc_lt _ _ _ (by simp; omega)).trans ((World.cell?_alloc_lt _ _ _ hbl).trans k2), (World.cell?_alloc_lt _ _ _ (by simp; omega)).trans ((World.cell?_alloc_lt _ _ _ hbl).trans k3), (World.cell?_alloc_lt _ _ _ (by simp; omega)).trans ((World.cell?_alloc_lt _ _ _ hbl).trans k4)⟩ ?_
      clear hK K hS
      refine restS_alone 14 rfl (by kernel_rfl) (by rfl) (fun hS K hK => ?_)
      go_wp2_with fail
      refine hK.out _ _ ⟨(World.cell?_alloc_lt _ _ _ (by simp; omega)).trans ((World.cell?_alloc_lt _ _ _ hbl).trans k1), (World.cell?_alloc_lt _ _ _ (by simp; omega)).trans ((World.cell?_alloc_lt _ _ _ hbl).trans k2), (World.cell?_alloc_lt _ _ _ (by simp; omega)).trans ((World.cell?_alloc_lt _ _ _ hbl).trans k3), (World.cell?_alloc_lt _ _ _ (by simp; omega)).trans ((World.cell?_alloc_lt _ _ _ hbl).trans k4)⟩ ?_
      clear hK K hS
      refine restS_done (by kernel_rfl) (fun hS => ?_)
      clear hS
      go_wp2_with (go_at_call 105; refine (c_spec_ReadOk _ _ _ _ _).mono ?_; rintro e w1 ⟨rfl, hb⟩; obtain ⟨hc, hf, hsz⟩ := bcell hb; have hz := hb.size; (try simp at hz); have q0 := (((Bx.new w [.int .i64 0, .int .i64 0, .int .i64 0, .int .i64 0] 34).alloc (.cells #[.int .i64 a, .int .i64 b, .int .i64 c, .int .i64 d] 34)).drew.below hb).2; have q1 := ((Bx.new (w.alloc (.cells #[.int .i64 0, .int .i64 0, .int .i64 0, .int .i64 0] 34)) [.int .i64 a, .int .i64 b, .int .i64 c, .int .i64 d] 34).drew.below hb).2; rw [World.size_alloc] at q1; clear hc)
      refine bodyPost_ret (v := .tuple #[.agg #[.int .i64 0, .int .i64 0, .int .i64 0, .int .i64 0], .bool false]) (by simp [results, Try.results60, go_sem, *]) rfl ⟨rfl, ?_⟩
      (repeat (first | with_reducible exact Below.refl _ _ | ((with_reducible refine bl_alloc ?_ ?_); (focus (first | (simp; done) | (simp; omega) | omega))) | ((with_reducible refine bl_set ?_ ?_); (focus (first | (simp; done) | (simp; omega) | omega))) | ((with_reducible refine bl_later ?_ ?_); (focus (first | (simp; done) | (simp; omega) | omega))) | with_reducible refine bl_drew ?_ | with_reducible refine bl_drewN ?_ | ((with_reducible refine bl_step (by assumption) ?_ ?_); (focus (first | (simp; done) | (simp; omega) | omega)))))
    · have e1 : isRead [x0, a, b, c, d] = true := by simp only [isRead, hi1, Bool.true_and]; exact hE
      have e2 : partsRead [x0, a, b, c, d] = [a, b, c, d] := by simp [partsRead, e1]
      rw [e1, e2]
      simp only [List.map_cons, List.map_nil]
      go_enter Try.func60, Try.ntmps60
      go_wp2_with (go_at_call 116; refine (c_spec_l11Is _ _ 5 _ [x0, a, b, c, d] _ (h' _ (by (repeat (first | with_reducible exact Below.refl _ _ | ((with_reducible refine bl_alloc ?_ ?_); (focus (first | (simp; done) | (simp; omega) | omega))) | ((with_reducible refine bl_set ?_ ?_); (focus (first | (simp; done) | (simp; omega) | omega))) | ((with_reducible refine bl_later ?_ ?_); (focus (first | (simp; done) | (simp; omega) | omega))) | with_reducible refine bl_drew ?_ | with_reducible refine bl_drewN ?_ | ((with_reducible refine bl_step (by assumption) ?_ ?_); (focus (first | (simp; done) | (simp; omega) | omega))))))) (by omega) (by omega)).mono ?_; rintro e w' ⟨rfl, rfl⟩)
      refine restS_begin (fun W => W.cell? ⟨b0, off + 1, none⟩ = some (.int .i64 a) ∧ W.cell? ⟨b0, off + 2, none⟩ = some (.int .i64 b) ∧ W.cell? ⟨b0, off + 3, none⟩ = some (.int .i64 c) ∧ W.cell? ⟨b0, off + 4, none⟩ = some (.int .i64 d)) (by kernel_rfl) ?_ ?_
      · exact ⟨(World.cell?_alloc_lt _ _ _ hbl).trans k1, (World.cell?_alloc_lt _ _ _ hbl).trans k2, (World.cell?_alloc_lt _ _ _ hbl).trans k3, (World.cell?_alloc_lt _ _ _ hbl).trans k4⟩
      refine restS_take (v := ?_) 0 rfl (by kernel_rfl) (by kernel_rfl) (by kernel_rfl) (fun _ _ _ h => h) (by rfl) ?_ ?_
      rotate_left
      · intro w9 h9; try dsimp only at h9
        go_split_ands
        go_simp; try with_reducible rfl
      try simp only [Act.put, List.setIfInBounds_toArray, List.set_cons_zero, List.set_cons_succ]
      refine restS_take (v := ?_) 1 rfl (by kernel_rfl) (by kernel_rfl) (by kernel_rfl) (fun _ _ _ h => h) (by rfl) ?_ ?_
      rotate_left
      · intro w9 h9; try dsimp only at h9
        go_split_ands
        go_simp; try with_reducible rfl
      try simp only [Act.put, List.setIfInBounds_toArray, List.set_cons_zero, List.set_cons_succ]
      refine restS_take (v := ?_) 2 rfl (by kernel_rfl) (by kernel_rfl) (by kernel_rfl) (fun _ _ _ h => h) (by rfl) ?_ ?_
      rotate_left
      · intro w9 h9; try dsimp only at h9
        go_split_ands
        go_simp; try with_reducible rfl
      try simp only [Act.put, List.setIfInBounds_toArray, List.set_cons_zero, List.set_cons_succ]
      refine restS_take (v := ?_) 3 rfl (by kernel_rfl) (by kernel_rfl) (by kernel_rfl) (fun _ _ _ h => h) (by rfl) ?_ ?_
      rotate_left
      · intro w9 h9; try dsimp only at h9
        go_split_ands
        go_simp; try with_reducible rfl
      try simp only [Act.put, List.setIfInBounds_toArray, List.set_cons_zero, List.set_cons_succ]
      refine restS_take (v := ?_) 4 rfl (by kernel_rfl) (by kernel_rfl) (by kernel_rfl) (fun _ _ _ h => h) (by rfl) ?_ ?_
      rotate_left
      · intro w9 h9; try dsimp only at h9
        go_split_ands
        go_simp; try with_reducible rfl
      try simp only [Act.put, List.setIfInBounds_toArray, List.set_cons_zero, List.set_cons_succ]
      refine restS_take (v := ?_) 5 rfl (by kernel_rfl) (by kernel_rfl) (by kernel_rfl) (fun _ _ _ h => h) (by rfl) ?_ ?_
      rotate_left
      · intro w9 h9; try dsimp only at h9
        go_split_ands
        go_simp; try with_reducible rfl
      try simp only [Act.put, List.setIfInBounds_toArray, List.set_cons_zero, List.set_cons_succ]
      refine restS_take (v := ?_) 6 rfl (by kernel_rfl) (by kernel_rfl) (by kernel_rfl) (fun _ _ _ h => h) (by rfl) ?_ ?_
      rotate_left
      · intro w9 h9; try dsimp only at h9
        go_split_ands
        go_simp; try with_reducible rfl
      try simp only [Act.put, List.setIfInBounds_toArray, List.set_cons_zero, List.set_cons_succ]
      refine restS_take (v := ?_) 7 rfl (by kernel_rfl) (by kernel_rfl) (by kernel_rfl) (fun _ _ _ h => h) (by rfl) ?_ ?_
      rotate_left
      · intro w9 h9; try dsimp only at h9
        go_split_ands
        go_simp; try with_reducible rfl
      try simp only [Act.put, List.setIfInBounds_toArray, List.set_cons_zero, List.set_cons_succ]
      refine restS_take (v := ?_) 8 rfl (by kernel_rfl) (by kernel_rfl) (by kernel_rfl) (fun _ _ _ h => h) (by rfl) ?_ ?_
      rotate_left
      · intro w9 h9; try dsimp only at h9
        go_split_ands
        go_simp; try with_reducible rfl
      try simp only [Act.put, List.setIfInBounds_toArray, List.set_cons_zero, List.set_cons_succ]
      refine restS_take (v := ?_) 9 rfl (by kernel_rfl) (by kernel_rfl) (by kernel_rfl) (fun _ _ _ h => h) (by rfl) ?_ ?_
      rotate_left
      · intro w9 h9; try dsimp only at h9
        go_split_ands
        go_simp; try with_reducible rfl
      try simp only [Act.put, List.setIfInBounds_toArray, List.set_cons_zero, List.set_cons_succ]
      refine restS_take (v := ?_) 10 rfl (by kernel_rfl) (by kernel_rfl) (by kernel_rfl) (fun _ _ _ h => h) (by rfl) ?_ ?_
      rotate_left
      · intro w9 h9; try dsimp only at h9
        go_split_ands
        go_simp; try with_reducible rfl
      try simp only [Act.put, List.setIfInBounds_toArray, List.set_cons_zero, List.set_cons_succ]
      refine restS_take (v := ?_) 11 rfl (by kernel_rfl) (by kernel_rfl) (by kernel_rfl) (fun _ _ _ h => h) (by rfl) ?_ ?_
      rotate_left
      · intro w9 h9; try dsimp only at h9
        go_split_ands
        go_simp; try with_reducible rfl
      try simp only [Act.put, List.setIfInBounds_toArray, List.set_cons_zero, List.set_cons_succ]
      refine restS_take (v := ?_) 12 rfl (by kernel_rfl) (by kernel_rfl) (by kernel_rfl) (fun _ _ _ h => h) (by rfl) ?_ ?_
      rotate_left
      · intro w9 h9; try dsimp only at h9
        go_split_ands
        go_simp; try with_reducible rfl
      try simp only [Act.put, List.setIfInBounds_toArray, List.set_cons_zero, List.set_cons_succ]
      refine restS_alone 13 rfl (by kernel_rfl) (by rfl) (fun hS K hK => ?_)
      go_wp2_with fail
      refine hK.out _ _ ⟨(World.cell?_alloc_lt _ _ _ (by simp; omega)).trans ((World.cell?_alloc_lt _ _ _ hbl).trans k1), (World.cell?_alloc_lt _ _ _ (by simp; omega)).trans ((World.cell?_alloc_lt _ _ _ hbl).trans k2), (World.cell?_alloc_lt _ _ _ (by simp; omega)).trans ((World.cell?_alloc_lt _ _ _ hbl).trans k3), (World.cell?_alloc_lt _ _ _ (by simp; omega)).trans ((World.cell?_alloc_lt _ _ _ hbl).trans k4)⟩ ?_
      clear hK K hS
      refine restS_alone 14 rfl (by kernel_rfl) (by rfl) (fun hS K hK => ?_)
      go_wp2_with fail
      refine hK.out _ _ ⟨(World.cell?_alloc_lt _ _ _ (by simp; omega)).trans ((World.cell?_alloc_lt _ _ _ hbl).trans k1), (World.cell?_alloc_lt _ _ _ (by simp; omega)).trans ((World.cell?_alloc_lt _ _ _ hbl).trans k2), (World.cell?_alloc_lt _ _ _ (by simp; omega)).trans ((World.cell?_alloc_lt _ _ _ hbl).trans k3), (World.cell?_alloc_lt _ _ _ (by simp; omega)).trans ((World.cell?_alloc_lt _ _ _ hbl).trans k4)⟩ ?_
      clear hK K hS
      refine restS_done (by kernel_rfl) (fun hS => ?_)
      clear hS
      go_wp2_with (go_at_call 105; refine (c_spec_ReadOk _ _ _ _ _).mono ?_; rintro e w1 ⟨rfl, hb⟩; obtain ⟨hc, hf, hsz⟩ := bcell hb; have hz := hb.size; (try simp at hz); have q0 := (((Bx.new w [.int .i64 0, .int .i64 0, .int .i64 0, .int .i64 0] 34).alloc (.cells #[.int .i64 a, .int .i64 b, .int .i64 c, .int .i64 d] 34)).drew.below hb).2; have q1 := ((Bx.new (w.alloc (.cells #[.int .i64 0, .int .i64 0, .int .i64 0, .int .i64 0] 34)) [.int .i64 a, .int .i64 b, .int .i64 c, .int .i64 d] 34).drew.below hb).2; rw [World.size_alloc] at q1; clear hc)
      refine bodyPost_ret (v := .tuple #[.agg #[.int .i64 a, .int .i64 b, .int .i64 c, .int .i64 d], .bool true]) (by simp [results, Try.results60, go_sem, *]) rfl ⟨rfl, ?_⟩
      (repeat (first | with_reducible exact Below.refl _ _ | ((with_reducible refine bl_alloc ?_ ?_); (focus (first | (simp; done) | (simp; omega) | omega))) | ((with_reducible refine bl_set ?_ ?_); (focus (first | (simp; done) | (simp; omega) | omega))) | ((with_reducible refine bl_later ?_ ?_); (focus (first | (simp; done) | (simp; omega) | omega))) | with_reducible refine bl_drew ?_ | with_reducible refine bl_drewN ?_ | ((with_reducible refine bl_step (by assumption) ?_ ?_); (focus (first | (simp; done) | (simp; omega) | omega)))))
theorem c_decoded_Read_no (b0 off cap : Nat) (a b c d : Int) (w : World) (hh : IntsR w (some ⟨b0, off, none⟩) [6, a, b, c, d]) (hcap : 5 ≤ cap) (hk : (kindOf [6, a, b, c, d] != 6) = false) (hE : (inB a 2 5 && inB b 1 2000 && inB c 0 9 && inB d 0 2000) = false) :
    Calls Try.prog 117 #[.slice (some ⟨b0, off, none⟩) 5 cap, .int .i64 6, .int .i64 4, .int .i64 4, .func (Fn.func 118) #[] #[]] w fun e w' => e = .returned (.tuple #[.agg #[.int .i64 0, .int .i64 0, .int .i64 0, .int .i64 0], .bool false]) ∧ Below w.heap.size w w' := by
  have h' : ∀ W, Below w.heap.size w W → IntsR W (some ⟨b0, off, none⟩) [6, a, b, c, d] := fun W hb => hh.below hb
  have hr1 := hh.tail
  have hm := hh.2.1
  have Hr1 := Lib.hid hr1
  have H := Lib.hid hh
  go_enter Try.func117, Try.ntmps117
  go_wp2_with (go_at_call 90; refine (c_impl_KindOf _ _ [6, a, b, c, d] _ (h' _ (by (repeat (first | with_reducible exact Below.refl _ _ | ((with_reducible refine bl_alloc ?_ ?_); (focus (first | (simp; done) | (simp; omega) | omega))) | ((with_reducible refine bl_set ?_ ?_); (focus (first | (simp; done) | (simp; omega) | omega))) | ((with_reducible refine bl_later ?_ ?_); (focus (first | (simp; done) | (simp; omega) | omega))) | with_reducible refine bl_drew ?_ | with_reducible refine bl_drewN ?_ | ((with_reducible refine bl_step (by assumption) ?_ ?_); (focus (first | (simp; done) | (simp; omega) | omega)))))))).mono ?_; rintro e w' ⟨rfl, rfl⟩)
  have Bz := (Bx.new w [.int .i64 0, .int .i64 0, .int .i64 0, .int .i64 0] 34).alloc (.cells #[.int .i64 0, .int .i64 0, .int .i64 0, .int .i64 0] 34)
  have By := Bx.new (w.alloc (.cells #[.int .i64 0, .int .i64 0, .int .i64 0, .int .i64 0] 34)) [.int .i64 0, .int .i64 0, .int .i64 0, .int .i64 0] 34
  rw [World.size_alloc] at By
  have Bf := (Fx.new w [.int .i64 0, .int .i64 0, .int .i64 0, .int .i64 0] 34).alloc (.cells #[.int .i64 0, .int .i64 0, .int .i64 0, .int .i64 0] 34)
  have hbW : Below w.heap.size w ((w.alloc (.cells #[.int .i64 0, .int .i64 0, .int .i64 0, .int .i64 0] 34)).alloc (.cells #[.int .i64 0, .int .i64 0, .int .i64 0, .int .i64 0] 34)) := by (repeat (first | with_reducible exact Below.refl _ _ | ((with_reducible refine bl_alloc ?_ ?_); (focus (first | (simp; done) | (simp; omega) | omega))) | ((with_reducible refine bl_set ?_ ?_); (focus (first | (simp; done) | (simp; omega) | omega))) | ((with_reducible refine bl_later ?_ ?_); (focus (first | (simp; done) | (simp; omega) | omega))) | with_reducible refine bl_drew ?_ | with_reducible refine bl_drewN ?_ | ((with_reducible refine bl_step (by assumption) ?_ ?_); (focus (first | (simp; done) | (simp; omega) | omega)))))
  refine (c_clos_Read _ _ a b c d _ (hr1.below hbW)).mono ?_
  rintro e w3 ⟨rfl, hb3⟩
  replace Bz := (Bz.below hb3).alloc (.cells #[.int .i64 a, .int .i64 b, .int .i64 c, .int .i64 d] 34) |>.drew
  replace By := (By.below hb3).alloc (.cells #[.int .i64 a, .int .i64 b, .int .i64 c, .int .i64 d] 34) |>.drew
  replace Bf := (Bf.below hb3).alloc (.cells #[.int .i64 a, .int .i64 b, .int .i64 c, .int .i64 d] 34) |>.drew
  have hz3 := hb3.size
  simp only [World.size_alloc] at hz3
  have hb4 : Below w.heap.size w (w3.alloc (.cells #[.int .i64 a, .int .i64 b, .int .i64 c, .int .i64 d] 34)).drew := ((bl_step hb3 (by simp; omega) hbW).alloc (by omega) _).drew
  have Bt := (Bx.new w3 [.int .i64 a, .int .i64 b, .int .i64 c, .int .i64 d] 34).drew
  go_wp2_with fail
  refine restS_begin (fun W => ∀ o, W.cell? ⟨w3.heap.size, o, none⟩ = ([.int .i64 a, .int .i64 b, .int .i64 c, .int .i64 d] : List Value)[o]?) (by kernel_rfl) Bt.2 ?_
  refine restS_take (v := ?_) 0 rfl (by kernel_rfl) (by kernel_rfl) (by kernel_rfl) (fun _ _ _ h => h) (by rfl) ?_ ?_
  rotate_left
  · intro w9 h9; try dsimp only at h9
    go_split_ands
    go_simp; try with_reducible rfl
  try simp only [Act.put, List.setIfInBounds_toArray, List.set_cons_zero, List.set_cons_succ]
  refine restS_take (v := ?_) 1 rfl (by kernel_rfl) (by kernel_rfl) (by kernel_rfl) (fun _ _ _ h => h) (by rfl) ?_ ?_
  rotate_left
  · intro w9 h9; try dsimp only at h9
    go_split_ands
    go_simp; try with_reducible rfl
  try simp only [Act.put, List.setIfInBounds_toArray, List.set_cons_zero, List.set_cons_succ]
  refine restS_alone 2 rfl (by kernel_rfl) (by rfl) (fun hS K hK => ?_)
  go_wp2_with fail
  rw [run_method_direct (f := 194)]
  rotate_left
  · kernel_rfl
  go_wp2_with fail
  refine (c_Read_valid a b c d _).mono ?_
  rintro e w5 ⟨rfl, hb5⟩
  have Btw5 := Bt.below hb5
  go_wp2_with fail
  refine hK.out _ _ Btw5.2 ?_
  try simp only [Act.put, List.setIfInBounds_toArray, List.set_cons_zero, List.set_cons_succ]
  clear hK K hS
  refine restS_take (v := ?_) 3 rfl (by kernel_rfl) (by kernel_rfl) (by kernel_rfl) (fun _ _ _ h => h) (by rfl) ?_ ?_
  rotate_left
  · intro w9 h9; try dsimp only at h9
    go_split_ands
    go_simp; try with_reducible rfl
  try simp only [Act.put, List.setIfInBounds_toArray, List.set_cons_zero, List.set_cons_succ]
  refine restS_take (v := ?_) 4 rfl (by kernel_rfl) (by kernel_rfl) (by kernel_rfl) (fun _ _ _ h => h) (by rfl) ?_ ?_
  rotate_left
  · intro w9 h9; try dsimp only at h9
    go_split_ands
    go_simp; try with_reducible rfl
  try simp only [Act.put, List.setIfInBounds_toArray, List.set_cons_zero, List.set_cons_succ]
  refine restS_skip 5 rfl (by kernel_rfl) (by kernel_rfl) (by kernel_rfl) (fun _ _ _ h => h) (by rfl) ?_
  try simp only [Act.put, List.setIfInBounds_toArray, List.set_cons_zero, List.set_cons_succ]
  refine restS_skip 6 rfl (by kernel_rfl) (by kernel_rfl) (by kernel_rfl) (fun _ _ _ h => h) (by rfl) ?_
  try simp only [Act.put, List.setIfInBounds_toArray, List.set_cons_zero, List.set_cons_succ]
  refine restS_skip 8 rfl (by kernel_rfl) (by kernel_rfl) (by kernel_rfl) (fun _ _ _ h => h) (by rfl) ?_
  try simp only [Act.put, List.setIfInBounds_toArray, List.set_cons_zero, List.set_cons_succ]
  refine restS_skip 9 rfl (by kernel_rfl) (by kernel_rfl) (by kernel_rfl) (fun _ _ _ h => h) (by rfl) ?_
  try simp only [Act.put, List.setIfInBounds_toArray, List.set_cons_zero, List.set_cons_succ]
  refine restS_skip 7 rfl (by kernel_rfl) (by kernel_rfl) (by kernel_rfl) (fun _ _ _ h => h) (by rfl) ?_
  try simp only [Act.put, List.setIfInBounds_toArray, List.set_cons_zero, List.set_cons_succ]
  refine restS_skip 10 rfl (by kernel_rfl) (by kernel_rfl) (by kernel_rfl) (fun _ _ _ h => h) (by rfl) ?_
  try simp only [Act.put, List.setIfInBounds_toArray, List.set_cons_zero, List.set_cons_succ]
  refine restS_skip 11 rfl (by kernel_rfl) (by kernel_rfl) (by kernel_rfl) (fun _ _ _ h => h) (by rfl) ?_
  try simp only [Act.put, List.setIfInBounds_toArray, List.set_cons_zero, List.set_cons_succ]
  refine restS_take (v := ?_) 12 rfl (by kernel_rfl) (by kernel_rfl) (by kernel_rfl) (fun _ _ _ h => h) (by rfl) ?_ ?_
  rotate_left
  · intro w9 h9; try dsimp only at h9
    go_split_ands
    go_simp; try with_reducible rfl
  try simp only [Act.put, List.setIfInBounds_toArray, List.set_cons_zero, List.set_cons_succ]
  refine restS_done (by kernel_rfl) (fun hS => ?_)
  clear hS
  have q0 := (Bz.below hb5).2
  have q1 := (By.below hb5).2
  have q2 := Btw5.2
  have q3 := (Bf.below hb5).2
  have hz5 := hb5.size
  simp only [World.size_drew, World.size_alloc] at hz5
  have hb6 := bl_step hb5 hb4.size hb4
  go_wp2_with fail
  refine bodyPost_ret (v := .tuple #[.agg #[.int .i64 0, .int .i64 0, .int .i64 0, .int .i64 0], .bool false]) (by simp [results, Try.results117, go_sem, *]) rfl ⟨rfl, ?_⟩
  (repeat (first | with_reducible exact Below.refl _ _ | ((with_reducible refine bl_alloc ?_ ?_); (focus (first | (simp; done) | (simp; omega) | omega))) | ((with_reducible refine bl_set ?_ ?_); (focus (first | (simp; done) | (simp; omega) | omega))) | ((with_reducible refine bl_later ?_ ?_); (focus (first | (simp; done) | (simp; omega) | omega))) | with_reducible refine bl_drew ?_ | with_reducible refine bl_drewN ?_ | ((with_reducible refine bl_step (by assumption) ?_ ?_); (focus (first | (simp; done) | (simp; omega) | omega)))))
theorem c_decoded_Read_yes (b0 off cap : Nat) (a b c d : Int) (w : World) (hh : IntsR w (some ⟨b0, off, none⟩) [6, a, b, c, d]) (hcap : 5 ≤ cap) (hk : (kindOf [6, a, b, c, d] != 6) = false) (hE : (inB a 2 5 && inB b 1 2000 && inB c 0 9 && inB d 0 2000) = true) (ya : inI64 a) (yb : inI64 b) (yc : inI64 c) (yd : inI64 d) :
    Calls Try.prog 117 #[.slice (some ⟨b0, off, none⟩) 5 cap, .int .i64 6, .int .i64 4, .int .i64 4, .func (Fn.func 118) #[] #[]] w fun e w' => e = .returned (.tuple #[.agg #[.int .i64 a, .int .i64 b, .int .i64 c, .int .i64 d], .bool true]) ∧ Below w.heap.size w w' := by
  have h' : ∀ W, Below w.heap.size w W → IntsR W (some ⟨b0, off, none⟩) [6, a, b, c, d] := fun W hb => hh.below hb
  have hr1 := hh.tail
  have hm := hh.2.1
  have Hr1 := Lib.hid hr1
  have H := Lib.hid hh
  go_enter Try.func117, Try.ntmps117
  go_wp2_with (go_at_call 90; refine (c_impl_KindOf _ _ [6, a, b, c, d] _ (h' _ (by (repeat (first | with_reducible exact Below.refl _ _ | ((with_reducible refine bl_alloc ?_ ?_); (focus (first | (simp; done) | (simp; omega) | omega))) | ((with_reducible refine bl_set ?_ ?_); (focus (first | (simp; done) | (simp; omega) | omega))) | ((with_reducible refine bl_later ?_ ?_); (focus (first | (simp; done) | (simp; omega) | omega))) | with_reducible refine bl_drew ?_ | with_reducible refine bl_drewN ?_ | ((with_reducible refine bl_step (by assumption) ?_ ?_); (focus (first | (simp; done) | (simp; omega) | omega)))))))).mono ?_; rintro e w' ⟨rfl, rfl⟩)
  have Bz := (Bx.new w [.int .i64 0, .int .i64 0, .int .i64 0, .int .i64 0] 34).alloc (.cells #[.int .i64 0, .int .i64 0, .int .i64 0, .int .i64 0] 34)
  have By := Bx.new (w.alloc (.cells #[.int .i64 0, .int .i64 0, .int .i64 0, .int .i64 0] 34)) [.int .i64 0, .int .i64 0, .int .i64 0, .int .i64 0] 34
  rw [World.size_alloc] at By
  have Bf := (Fx.new w [.int .i64 0, .int .i64 0, .int .i64 0, .int .i64 0] 34).alloc (.cells #[.int .i64 0, .int .i64 0, .int .i64 0, .int .i64 0] 34)
  have hbW : Below w.heap.size w ((w.alloc (.cells #[.int .i64 0, .int .i64 0, .int .i64 0, .int .i64 0] 34)).alloc (.cells #[.int .i64 0, .int .i64 0, .int .i64 0, .int .i64 0] 34)) := by (repeat (first | with_reducible exact Below.refl _ _ | ((with_reducible refine bl_alloc ?_ ?_); (focus (first | (simp; done) | (simp; omega) | omega))) | ((with_reducible refine bl_set ?_ ?_); (focus (first | (simp; done) | (simp; omega) | omega))) | ((with_reducible refine bl_later ?_ ?_); (focus (first | (simp; done) | (simp; omega) | omega))) | with_reducible refine bl_drew ?_ | with_reducible refine bl_drewN ?_ | ((with_reducible refine bl_step (by assumption) ?_ ?_); (focus (first | (simp; done) | (simp; omega) | omega)))))
  refine (c_clos_Read _ _ a b c d _ (hr1.below hbW)).mono ?_
  rintro e w3 ⟨rfl, hb3⟩
  replace Bz := (Bz.below hb3).alloc (.cells #[.int .i64 a, .int .i64 b, .int .i64 c, .int .i64 d] 34) |>.drew
  replace By := (By.below hb3).alloc (.cells #[.int .i64 a, .int .i64 b, .int .i64 c, .int .i64 d] 34) |>.drew
  replace Bf := (Bf.below hb3).alloc (.cells #[.int .i64 a, .int .i64 b, .int .i64 c, .int .i64 d] 34) |>.drew
  have hz3 := hb3.size
  simp only [World.size_alloc] at hz3
  have hb4 : Below w.heap.size w (w3.alloc (.cells #[.int .i64 a, .int .i64 b, .int .i64 c, .int .i64 d] 34)).drew := ((bl_step hb3 (by simp; omega) hbW).alloc (by omega) _).drew
  have Bt := (Bx.new w3 [.int .i64 a, .int .i64 b, .int .i64 c, .int .i64 d] 34).drew
  go_wp2_with fail
  refine restS_begin (fun W => ∀ o, W.cell? ⟨w3.heap.size, o, none⟩ = ([.int .i64 a, .int .i64 b, .int .i64 c, .int .i64 d] : List Value)[o]?) (by kernel_rfl) Bt.2 ?_
  refine restS_take (v := ?_) 0 rfl (by kernel_rfl) (by kernel_rfl) (by kernel_rfl) (fun _ _ _ h => h) (by rfl) ?_ ?_
  rotate_left
  · intro w9 h9; try dsimp only at h9
    go_split_ands
    go_simp; try with_reducible rfl
  try simp only [Act.put, List.setIfInBounds_toArray, List.set_cons_zero, List.set_cons_succ]
  refine restS_take (v := ?_) 1 rfl (by kernel_rfl) (by kernel_rfl) (by kernel_rfl) (fun _ _ _ h => h) (by rfl) ?_ ?_
  rotate_left
  · intro w9 h9; try dsimp only at h9
    go_split_ands
    go_simp; try with_reducible rfl
  try simp only [Act.put, List.setIfInBounds_toArray, List.set_cons_zero, List.set_cons_succ]
  refine restS_alone 2 rfl (by kernel_rfl) (by rfl) (fun hS K hK => ?_)
  go_wp2_with fail
  rw [run_method_direct (f := 194)]
  rotate_left
  · kernel_rfl
  go_wp2_with fail
  refine (c_Read_valid a b c d _).mono ?_
  rintro e w5 ⟨rfl, hb5⟩
  have Btw5 := Bt.below hb5
  go_wp2_with fail
  refine hK.out _ _ Btw5.2 ?_
  try simp only [Act.put, List.setIfInBounds_toArray, List.set_cons_zero, List.set_cons_succ]
  clear hK K hS
  refine restS_take (v := ?_) 3 rfl (by kernel_rfl) (by kernel_rfl) (by kernel_rfl) (fun _ _ _ h => h) (by rfl) ?_ ?_
  rotate_left
  · intro w9 h9; try dsimp only at h9
    go_split_ands
    go_simp; try with_reducible rfl
  try simp only [Act.put, List.setIfInBounds_toArray, List.set_cons_zero, List.set_cons_succ]
  refine restS_take (v := ?_) 4 rfl (by kernel_rfl) (by kernel_rfl) (by kernel_rfl) (fun _ _ _ h => h) (by rfl) ?_ ?_
  rotate_left
  · intro w9 h9; try dsimp only at h9
    go_split_ands
    go_simp; try with_reducible rfl
  try simp only [Act.put, List.setIfInBounds_toArray, List.set_cons_zero, List.set_cons_succ]
  refine restS_take (v := ?_) 5 rfl (by kernel_rfl) (by kernel_rfl) (by kernel_rfl) (fun _ _ _ h => h) (by rfl) ?_ ?_
  rotate_left
  · intro w9 h9; try dsimp only at h9
    go_split_ands
    go_simp; try with_reducible rfl
  try simp only [Act.put, List.setIfInBounds_toArray, List.set_cons_zero, List.set_cons_succ]
  refine restS_take (v := ?_) 6 rfl (by kernel_rfl) (by kernel_rfl) (by kernel_rfl) (fun _ _ _ h => h) (by rfl) ?_ ?_
  rotate_left
  · intro w9 h9; try dsimp only at h9
    go_split_ands
    go_simp; try with_reducible rfl
  try simp only [Act.put, List.setIfInBounds_toArray, List.set_cons_zero, List.set_cons_succ]
  refine restS_take (v := ?_) 8 rfl (by kernel_rfl) (by kernel_rfl) (by kernel_rfl) (fun _ _ _ h => h) (by rfl) ?_ ?_
  rotate_left
  · intro w9 h9; try dsimp only at h9
    go_split_ands
    go_simp; try with_reducible rfl
  try simp only [Act.put, List.setIfInBounds_toArray, List.set_cons_zero, List.set_cons_succ]
  refine restS_take (v := ?_) 9 rfl (by kernel_rfl) (by kernel_rfl) (by kernel_rfl) (fun _ _ _ h => h) (by rfl) ?_ ?_
  rotate_left
  · intro w9 h9; try dsimp only at h9
    go_split_ands
    go_simp; try with_reducible rfl
  try simp only [Act.put, List.setIfInBounds_toArray, List.set_cons_zero, List.set_cons_succ]
  refine restS_alone 7 rfl (by kernel_rfl) (by rfl) (fun hS K hK => ?_)
  go_wp2_with fail
  rw [run_method_direct (f := 193)]
  rotate_left
  · kernel_rfl
  go_wp2_with fail
  refine (c_Read_fields a b c d _ ya yb yc yd).mono ?_
  rintro e w6 ⟨a6, c6, rfl, ho6, hb6⟩
  have Btw6 := Btw5.below hb6
  go_wp2_with fail
  refine hK.out _ _ Btw6.2 ?_
  try simp only [Act.put, List.setIfInBounds_toArray, List.set_cons_zero, List.set_cons_succ]
  clear hK K hS
  refine restS_alone 10 rfl (by kernel_rfl) (by rfl) (fun hS K hK => ?_)
  go_wp2_with fail
  refine (c_SameRow _ _ _ _ [a, b, c, d] [a, b, c, d] _ ho6.read (((hr1.below hb4).below hb5).below hb6)).mono ?_
  rintro e w7 ⟨rfl, hb7⟩
  have Btw7 := Btw6.below hb7
  go_wp2_with fail
  refine hK.out _ _ Btw7.2 ?_
  try simp only [Act.put, List.setIfInBounds_toArray, List.set_cons_zero, List.set_cons_succ]
  clear hK K hS
  refine restS_take (v := ?_) 11 rfl (by kernel_rfl) (by kernel_rfl) (by kernel_rfl) (fun _ _ _ h => h) (by rfl) ?_ ?_
  rotate_left
  · intro w9 h9; try dsimp only at h9
    go_split_ands
    go_simp; try with_reducible rfl
  try simp only [Act.put, List.setIfInBounds_toArray, List.set_cons_zero, List.set_cons_succ]
  refine restS_take (v := ?_) 12 rfl (by kernel_rfl) (by kernel_rfl) (by kernel_rfl) (fun _ _ _ h => h) (by rfl) ?_ ?_
  rotate_left
  · intro w9 h9; try dsimp only at h9
    go_split_ands
    go_simp; try with_reducible rfl
  try simp only [Act.put, List.setIfInBounds_toArray, List.set_cons_zero, List.set_cons_succ]
  refine restS_done (by kernel_rfl) (fun hS => ?_)
  clear hS
  have q0 := (((Bz.below hb5).below hb6).below hb7).2
  have q1 := (((By.below hb5).below hb6).below hb7).2
  have q2 := Btw7.2
  have q3 := (((Bf.below hb5).below hb6).below hb7).2
  have hz5 := hb5.size
  have hz6 := hb6.size
  have hz7 := hb7.size
  simp only [World.size_drew, World.size_alloc] at hz5
  have hb8 := bl_step hb7 (Nat.le_trans hb4.size (Nat.le_trans hb5.size hb6.size)) (bl_step hb6 (Nat.le_trans hb4.size hb5.size) (bl_step hb5 hb4.size hb4))
  go_wp2_with fail
  refine bodyPost_ret (v := .tuple #[.agg #[.int .i64 a, .int .i64 b, .int .i64 c, .int .i64 d], .bool true]) (by simp [results, Try.results117, go_sem, *]) rfl ⟨rfl, ?_⟩
  (repeat (first | with_reducible exact Below.refl _ _ | ((with_reducible refine bl_alloc ?_ ?_); (focus (first | (simp; done) | (simp; omega) | omega))) | ((with_reducible refine bl_set ?_ ?_); (focus (first | (simp; done) | (simp; omega) | omega))) | ((with_reducible refine bl_later ?_ ?_); (focus (first | (simp; done) | (simp; omega) | omega))) | with_reducible refine bl_drew ?_ | with_reducible refine bl_drewN ?_ | ((with_reducible refine bl_step (by assumption) ?_ ?_); (focus (first | (simp; done) | (simp; omega) | omega)))))

end Go.Proofs.Ytpfkfppooeikeaa
/- Walks of functions of the program, printed by a program of the prover. -/
namespace Go.Proofs.Ytpfkfppooeikeaa
open Go.ChangeShapes Go.WideShapes Go.ChangeAt Go.RowKit Go.Deep
set_option maxHeartbeats 800000
set_option maxRecDepth 100000
theorem c_decoded_Read_bad (ao : Option Addr) (cap : Nat) (l : List Int) (w : World) (hh : IntsR w ao l) (hk : (kindOf l != 6) = true) :
    Calls Try.prog 117 #[.slice ao l.length cap, .int .i64 6, .int .i64 4, .int .i64 4, .func (Fn.func 118) #[] #[]] w fun e w' => e = .returned (.tuple #[.agg #[.int .i64 0, .int .i64 0, .int .i64 0, .int .i64 0], .bool false]) ∧ Below w.heap.size w w' := by
  have hm := hh.2.1
  have h' : ∀ W, Below w.heap.size w W → IntsR W ao l := fun W hb => hh.below hb
  go_enter Try.func117, Try.ntmps117
  go_wp2_with (go_at_call 90; refine (c_impl_KindOf _ _ l _ (h' _ (by (repeat (first | with_reducible exact Below.refl _ _ | ((with_reducible refine bl_alloc ?_ ?_); (focus (first | (simp; done) | (simp; omega) | omega))) | ((with_reducible refine bl_set ?_ ?_); (focus (first | (simp; done) | (simp; omega) | omega))) | ((with_reducible refine bl_later ?_ ?_); (focus (first | (simp; done) | (simp; omega) | omega))) | with_reducible refine bl_drew ?_ | with_reducible refine bl_drewN ?_ | ((with_reducible refine bl_step (by assumption) ?_ ?_); (focus (first | (simp; done) | (simp; omega) | omega)))))))).mono ?_; rintro e w' ⟨rfl, rfl⟩)
  refine bodyPost_ret (v := .tuple #[.agg #[.int .i64 0, .int .i64 0, .int .i64 0, .int .i64 0], .bool false]) (by simp [results, Try.results117, go_sem, *]) rfl ⟨rfl, ?_⟩
  (repeat (first | with_reducible exact Below.refl _ _ | ((with_reducible refine bl_alloc ?_ ?_); (focus (first | (simp; done) | (simp; omega) | omega))) | ((with_reducible refine bl_set ?_ ?_); (focus (first | (simp; done) | (simp; omega) | omega))) | ((with_reducible refine bl_later ?_ ?_); (focus (first | (simp; done) | (simp; omega) | omega))) | with_reducible refine bl_drew ?_ | with_reducible refine bl_drewN ?_ | ((with_reducible refine bl_step (by assumption) ?_ ?_); (focus (first | (simp; done) | (simp; omega) | omega)))))
theorem c_decoded_Read_len (ao : Option Addr) (cap : Nat) (l : List Int) (w : World) (hh : IntsR w ao l) (hk : (kindOf l != 6) = false) (h2 : l.length ≠ 5) :
    Calls Try.prog 117 #[.slice ao l.length cap, .int .i64 6, .int .i64 4, .int .i64 4, .func (Fn.func 118) #[] #[]] w fun e w' => e = .returned (.tuple #[.agg #[.int .i64 0, .int .i64 0, .int .i64 0, .int .i64 0], .bool false]) ∧ Below w.heap.size w w' := by
  have hm := hh.2.1
  obtain ⟨hl0, hl1, hd⟩ := kindOf_pos hk (by omega)
  clear hd
  have h' : ∀ W, Below w.heap.size w W → IntsR W ao l := fun W hb => hh.below hb
  by_cases h1 : l.length < 5
  · have e2 : decide ((l.length : Int) - 1 < 4) = true := by simp; omega
    go_enter Try.func117, Try.ntmps117
    go_wp2_with (go_at_call 90; refine (c_impl_KindOf _ _ l _ (h' _ (by (repeat (first | with_reducible exact Below.refl _ _ | ((with_reducible refine bl_alloc ?_ ?_); (focus (first | (simp; done) | (simp; omega) | omega))) | ((with_reducible refine bl_set ?_ ?_); (focus (first | (simp; done) | (simp; omega) | omega))) | ((with_reducible refine bl_later ?_ ?_); (focus (first | (simp; done) | (simp; omega) | omega))) | with_reducible refine bl_drew ?_ | with_reducible refine bl_drewN ?_ | ((with_reducible refine bl_step (by assumption) ?_ ?_); (focus (first | (simp; done) | (simp; omega) | omega)))))))).mono ?_; rintro e w' ⟨rfl, rfl⟩)
    refine bodyPost_ret (v := .tuple #[.agg #[.int .i64 0, .int .i64 0, .int .i64 0, .int .i64 0], .bool false]) (by simp [results, Try.results117, go_sem, *]) rfl ⟨rfl, ?_⟩
    (repeat (first | with_reducible exact Below.refl _ _ | ((with_reducible refine bl_alloc ?_ ?_); (focus (first | (simp; done) | (simp; omega) | omega))) | ((with_reducible refine bl_set ?_ ?_); (focus (first | (simp; done) | (simp; omega) | omega))) | ((with_reducible refine bl_later ?_ ?_); (focus (first | (simp; done) | (simp; omega) | omega))) | with_reducible refine bl_drew ?_ | with_reducible refine bl_drewN ?_ | ((with_reducible refine bl_step (by assumption) ?_ ?_); (focus (first | (simp; done) | (simp; omega) | omega)))))
  · have e2 : decide ((l.length : Int) - 1 < 4) = false := by simp; omega
    have e3 : decide (4 < (l.length : Int) - 1) = true := by simp; omega
    go_enter Try.func117, Try.ntmps117
    go_wp2_with (go_at_call 90; refine (c_impl_KindOf _ _ l _ (h' _ (by (repeat (first | with_reducible exact Below.refl _ _ | ((with_reducible refine bl_alloc ?_ ?_); (focus (first | (simp; done) | (simp; omega) | omega))) | ((with_reducible refine bl_set ?_ ?_); (focus (first | (simp; done) | (simp; omega) | omega))) | ((with_reducible refine bl_later ?_ ?_); (focus (first | (simp; done) | (simp; omega) | omega))) | with_reducible refine bl_drew ?_ | with_reducible refine bl_drewN ?_ | ((with_reducible refine bl_step (by assumption) ?_ ?_); (focus (first | (simp; done) | (simp; omega) | omega)))))))).mono ?_; rintro e w' ⟨rfl, rfl⟩)
    refine bodyPost_ret (v := .tuple #[.agg #[.int .i64 0, .int .i64 0, .int .i64 0, .int .i64 0], .bool false]) (by simp [results, Try.results117, go_sem, *]) rfl ⟨rfl, ?_⟩
    (repeat (first | with_reducible exact Below.refl _ _ | ((with_reducible refine bl_alloc ?_ ?_); (focus (first | (simp; done) | (simp; omega) | omega))) | ((with_reducible refine bl_set ?_ ?_); (focus (first | (simp; done) | (simp; omega) | omega))) | ((with_reducible refine bl_later ?_ ?_); (focus (first | (simp; done) | (simp; omega) | omega))) | with_reducible refine bl_drew ?_ | with_reducible refine bl_drewN ?_ | ((with_reducible refine bl_step (by assumption) ?_ ?_); (focus (first | (simp; done) | (simp; omega) | omega)))))
theorem isRead_len {l : List Int} (h : l.length ≠ 5) : isRead l = false := by simp [isRead, isB, h]
theorem isRead_ne {l : List Int} (h : (kindOf l != 6) = true) : isRead l = false := by
  cases hb : isB l 6 5
  · simp [isRead, hb]
  · obtain ⟨ix, hi1, hi2⟩ := kindOf_ne h (by omega) (by omega) (n := 5) (by omega) hb
    have hl : l.length = 5 := by simp [isB] at hb; exact hb.1
    match l, hl with
    | [x0, a, b, c, d], _ =>
      obtain rfl : x0 = 6 := by simp [isB] at hb; exact hb
      clear h hb
      simp only [numOk, List.length_cons, List.length_nil, Nat.zero_add, Nat.reduceAdd] at hi1 hi2
      have h01 : ix = 0 ∨ ix = 1 ∨ ix = 2 ∨ ix = 3 ∨ ix = 4 := by omega
      cases hx : isRead [6, a, b, c, d]
      · rfl
      · exfalso
        simp [isRead, isB, inB] at hx
        rcases h01 with rfl | rfl | rfl | rfl | rfl <;> simp at hi2 <;> (first | omega | (split at hx <;> omega))
theorem partsRead_f {l : List Int} (h : isRead l = false) : partsRead l = [0, 0, 0, 0] := by simp [partsRead, h]
theorem c_decoded_Read (ao : Option Addr) (cap : Nat) (l : List Int) (w : World) (hh : IntsR w ao l) (hcap : l.length ≤ cap) :
    Calls Try.prog 117 #[.slice ao l.length cap, .int .i64 6, .int .i64 4, .int .i64 4, .func (Fn.func 118) #[] #[]] w fun e w' => e = .returned (.tuple #[.agg ((partsRead l).map (Value.int .i64)).toArray, .bool (isRead l)]) ∧ Below w.heap.size w w' := by
  cases hk : (kindOf l != 6)
  · by_cases h2 : l.length = 5
    · obtain ⟨hl0, hl1, hd⟩ := kindOf_pos hk (by omega)
      obtain ⟨x0, a, b, c, d, rfl⟩ : ∃ x0 a b c d, l = [x0, a, b, c, d] := by
        match l, h2 with | [x0, a, b, c, d], _ => exact ⟨x0, a, b, c, d, rfl⟩
      obtain ⟨b0, off, rfl, hbl, hr0, hc⟩ := hh.at (k := 1) (by simp)
      obtain rfl : x0 = 6 := by simpa using hd
      have hib : isB [6, a, b, c, d] 6 5 = true := rfl
      cases hE : (inB a 2 5 && inB b 1 2000 && inB c 0 9 && inB d 0 2000)
      · have e1 : isRead [6, a, b, c, d] = false := by simp only [isRead, hib, Bool.true_and]; exact hE
        rw [partsRead_f e1, e1]
        exact c_decoded_Read_no b0 off cap a b c d w hh hcap hk hE
      · have e1 : isRead [6, a, b, c, d] = true := by simp only [isRead, hib, Bool.true_and]; exact hE
        have e2 : partsRead [6, a, b, c, d] = [a, b, c, d] := by simp [partsRead, e1]
        rw [e2, e1]
        exact c_decoded_Read_yes b0 off cap a b c d w hh hcap hk hE (hh.1 _ (by simp)) (hh.1 _ (by simp)) (hh.1 _ (by simp)) (hh.1 _ (by simp))
    · rw [partsRead_f (isRead_len h2), isRead_len h2]
      exact c_decoded_Read_len ao cap l w hh hk h2
  · rw [partsRead_f (isRead_ne hk), isRead_ne hk]
    exact c_decoded_Read_bad ao cap l w hh hk
theorem len_partsRead (l : List Int) : ∃ a b c d, partsRead l = [a, b, c, d] := by
  unfold partsRead
  split
  · rename_i h
    have hl : l.length = 5 := by simp [isRead, isB] at h; exact h.1.1
    match l, hl with | [x0, a, b, c, d], _ => exact ⟨a, b, c, d, rfl⟩
  · exact ⟨0, 0, 0, 0, rfl⟩
theorem c_impl_RowRead (ao : Option Addr) (cap : Nat) (l : List Int) (w : World) (hh : IntsR w ao l) (hcap : l.length ≤ cap) :
    Calls Try.prog 61 #[.slice ao l.length cap] w fun e w' => e = .returned (.tuple #[.agg ((partsRead l).map (Value.int .i64)).toArray, .bool (isRead l)]) ∧ Below w.heap.size w w' := by
  have key := c_decoded_Read ao cap l (w.alloc (.cells #[.int .i64 0, .int .i64 0, .int .i64 0, .int .i64 0] 34)) (hh.below (by (repeat (first | with_reducible exact Below.refl _ _ | ((with_reducible refine bl_alloc ?_ ?_); (focus (first | (simp; done) | (simp; omega) | omega))) | ((with_reducible refine bl_set ?_ ?_); (focus (first | (simp; done) | (simp; omega) | omega))) | ((with_reducible refine bl_later ?_ ?_); (focus (first | (simp; done) | (simp; omega) | omega))) | with_reducible refine bl_drew ?_ | with_reducible refine bl_drewN ?_ | ((with_reducible refine bl_step (by assumption) ?_ ?_); (focus (first | (simp; done) | (simp; omega) | omega))))))) hcap
  obtain ⟨a, b, c, d, hp⟩ := len_partsRead l
  rw [hp] at key ⊢
  simp only [List.map_cons, List.map_nil] at key ⊢
  clear hp
  go_enter Try.func61, Try.ntmps61
  go_wp2_with fail
  refine key.mono ?_
  rintro e w1 ⟨rfl, hb⟩
  have q0 := ((Bx.new w [.int .i64 0, .int .i64 0, .int .i64 0, .int .i64 0] 34).below hb).2
  have q1 := ((Fx.new w [.int .i64 0, .int .i64 0, .int .i64 0, .int .i64 0] 34).below hb).2
  have hz := hb.size
  simp only [World.size_alloc] at hz
  clear key
  go_wp2_with fail
  refine bodyPost_ret (v := .tuple #[.agg #[.int .i64 a, .int .i64 b, .int .i64 c, .int .i64 d], .bool (isRead l)]) (by simp [results, Try.results61, go_sem, *]) rfl ⟨rfl, ?_⟩
  (repeat (first | with_reducible exact Below.refl _ _ | ((with_reducible refine bl_alloc ?_ ?_); (focus (first | (simp; done) | (simp; omega) | omega))) | ((with_reducible refine bl_set ?_ ?_); (focus (first | (simp; done) | (simp; omega) | omega))) | ((with_reducible refine bl_later ?_ ?_); (focus (first | (simp; done) | (simp; omega) | omega))) | with_reducible refine bl_drew ?_ | with_reducible refine bl_drewN ?_ | ((with_reducible refine bl_step (by assumption) ?_ ?_); (focus (first | (simp; done) | (simp; omega) | omega)))))
theorem c_eqRead_same (a b c d : Int) (w : World) : Calls Try.prog 62 #[.agg #[.int .i64 a, .int .i64 b, .int .i64 c, .int .i64 d], .agg #[.int .i64 a, .int .i64 b, .int .i64 c, .int .i64 d]] w fun e w' => e = .returned (.bool true) ∧ Below w.heap.size w w' := by
  go_enter Try.func62, Try.ntmps62
  go_wp2
  go_ret
  exact ⟨rfl, by (repeat (first | with_reducible exact Below.refl _ _ | ((with_reducible refine bl_alloc ?_ ?_); (focus (first | (simp; done) | (simp; omega) | omega))) | ((with_reducible refine bl_set ?_ ?_); (focus (first | (simp; done) | (simp; omega) | omega))) | ((with_reducible refine bl_later ?_ ?_); (focus (first | (simp; done) | (simp; omega) | omega))) | with_reducible refine bl_drew ?_ | with_reducible refine bl_drewN ?_ | ((with_reducible refine bl_step (by assumption) ?_ ?_); (focus (first | (simp; done) | (simp; omega) | omega)))))⟩

end Go.Proofs.Ytpfkfppooeikeaa
/- Walks of functions of the program, printed by a program of the prover. -/
namespace Go.Proofs.Ytpfkfppooeikeaa
open Go.RowKit
set_option maxHeartbeats 400000
set_option maxRecDepth 100000
def rowValue (c s i h v : Int) : List Int := if valueOk c s i h v then [7, c, s, i, h, v] else []
theorem rowValue_t {c s i h v : Int} (h9 : (valueOk c s i h v) = true) : rowValue c s i h v = [7, c, s, i, h, v] := by unfold rowValue; rw [h9]; rfl
theorem rowValue_f {c s i h v : Int} (h9 : (valueOk c s i h v) = false) : rowValue c s i h v = [] := by unfold rowValue; rw [h9]; rfl
theorem c_spec_ValueRow (c s i h v : Int) (w : World) (yc : inI64 c) (ys : inI64 s) (yi : inI64 i) (yh : inI64 h) (yv : inI64 v) : Calls Try.prog 49 #[.agg #[.int .i64 c, .int .i64 s, .int .i64 i, .int .i64 h, .int .i64 v]] w (RetI w 2 (rowValue c s i h v)) := by
  cases hE : (valueOk c s i h v)
  · rw [rowValue_f hE]
    go_enter Try.func49, Try.ntmps49
    go_wp2_with (first | (go_at_call 113; refine (c_spec_ValueOk _ _ _ _ _ _).mono ?_; rintro e w1 ⟨rfl, hb⟩; obtain ⟨hc, hf, hsz⟩ := bcell hb; have hz := hb.size; (try simp at hz)))
    go_ret
    exact ⟨_, _, rfl, owns_empty w1 _ _ (by omega), by (repeat (first | with_reducible exact Below.refl _ _ | ((with_reducible refine bl_alloc ?_ ?_); (focus (first | (simp; done) | (simp; omega) | omega))) | ((with_reducible refine bl_set ?_ ?_); (focus (first | (simp; done) | (simp; omega) | omega))) | ((with_reducible refine bl_later ?_ ?_); (focus (first | (simp; done) | (simp; omega) | omega))) | with_reducible refine bl_drew ?_ | with_reducible refine bl_drewN ?_ | ((with_reducible refine bl_step (by assumption) ?_ ?_); (focus (first | (simp; done) | (simp; omega) | omega)))))⟩
  · rw [rowValue_t hE]
    go_enter Try.func49, Try.ntmps49
    go_wp2_with (first | (go_at_call 113; refine (c_spec_ValueOk _ _ _ _ _ _).mono ?_; rintro e w1 ⟨rfl, hb⟩; obtain ⟨hc, hf, hsz⟩ := bcell hb; have hz := hb.size; (try simp at hz)))
    go_ret
    exact ⟨_, _, rfl, owns_lit w1 _ _ [7, c, s, i, h, v] (by omega) (by simp) (by have k9 : inI64 7 := (by simp [inI64]); simp [k9, yc, ys, yi, yh, yv]), by (repeat (first | with_reducible exact Below.refl _ _ | ((with_reducible refine bl_alloc ?_ ?_); (focus (first | (simp; done) | (simp; omega) | omega))) | ((with_reducible refine bl_set ?_ ?_); (focus (first | (simp; done) | (simp; omega) | omega))) | ((with_reducible refine bl_later ?_ ?_); (focus (first | (simp; done) | (simp; omega) | omega))) | with_reducible refine bl_drew ?_ | with_reducible refine bl_drewN ?_ | ((with_reducible refine bl_step (by assumption) ?_ ?_); (focus (first | (simp; done) | (simp; omega) | omega)))))⟩
theorem c_kindOf_Value (c s i h v : Int) (w : World) : Calls Try.prog 149 #[.iface 51 (.agg #[.int .i64 c, .int .i64 s, .int .i64 i, .int .i64 h, .int .i64 v])] w fun e w' => e = .returned (.int .i64 7) ∧ w = w' := by
  have n_Ask := ta_Ask 51 (by decide)
  have n_Ack := ta_Ack 51 (by decide)
  have n_fetch := ta_fetch 51 (by decide)
  have n_Feed := ta_Feed 51 (by decide)
  have n_trim := ta_trim 51 (by decide)
  have n_Read := ta_Read 51 (by decide)
  have yes := @ta_yes Try.prog 51 179 _ Try.underlying51 rfl
  go_enter Try.func149, Try.ntmps149
  go_wp2
  go_ret
  exact ⟨rfl, rfl⟩
theorem c_Value_valid (c s i h v : Int) (w : World) : Calls Try.prog 201 #[.agg #[.int .i64 c, .int .i64 s, .int .i64 i, .int .i64 h, .int .i64 v]] w fun e w' => e = .returned (.bool (valueOk c s i h v)) ∧ Below w.heap.size w w' := by
  go_enter Try.func201, Try.ntmps201
  go_wp2_with (first | (go_at_call 202; refine (c_impl_ValueOk _ _ _ _ _ _).mono ?_; rintro e w1 ⟨rfl, hb⟩; obtain ⟨hc, hf, hsz⟩ := bcell hb; have hz := hb.size; (try simp at hz)))
  go_ret
  exact ⟨rfl, by (repeat (first | with_reducible exact Below.refl _ _ | ((with_reducible refine bl_alloc ?_ ?_); (focus (first | (simp; done) | (simp; omega) | omega))) | ((with_reducible refine bl_set ?_ ?_); (focus (first | (simp; done) | (simp; omega) | omega))) | ((with_reducible refine bl_later ?_ ?_); (focus (first | (simp; done) | (simp; omega) | omega))) | with_reducible refine bl_drew ?_ | with_reducible refine bl_drewN ?_ | ((with_reducible refine bl_step (by assumption) ?_ ?_); (focus (first | (simp; done) | (simp; omega) | omega)))))⟩
theorem c_Value_fields (c s i h v : Int) (w : World) (yc : inI64 c) (ys : inI64 s) (yi : inI64 i) (yh : inI64 h) (yv : inI64 v) : Calls Try.prog 200 #[.agg #[.int .i64 c, .int .i64 s, .int .i64 i, .int .i64 h, .int .i64 v]] w (RetI w 2 [c, s, i, h, v]) := by
  go_enter Try.func200, Try.ntmps200
  go_wp2
  go_ret
  have h9 := owns_lit (w.alloc (.cells ([.int .i64 c, .int .i64 s, .int .i64 i, .int .i64 h, .int .i64 v] : List Value).toArray 51)) w.heap.size 2 [c, s, i, h, v] (by simp) (by simp) (by simp [yc, ys, yi, yh, yv])
  rw [World.size_alloc] at h9
  exact ⟨_, _, rfl, h9, by (repeat (first | with_reducible exact Below.refl _ _ | ((with_reducible refine bl_alloc ?_ ?_); (focus (first | (simp; done) | (simp; omega) | omega))) | ((with_reducible refine bl_set ?_ ?_); (focus (first | (simp; done) | (simp; omega) | omega))) | ((with_reducible refine bl_later ?_ ?_); (focus (first | (simp; done) | (simp; omega) | omega))) | with_reducible refine bl_drew ?_ | with_reducible refine bl_drewN ?_ | ((with_reducible refine bl_step (by assumption) ?_ ?_); (focus (first | (simp; done) | (simp; omega) | omega)))))⟩
theorem c_encoded_Value (c s i h v : Int) (w : World) (yc : inI64 c) (ys : inI64 s) (yi : inI64 i) (yh : inI64 h) (yv : inI64 v) : Calls Try.prog 97 #[.iface 51 (.agg #[.int .i64 c, .int .i64 s, .int .i64 i, .int .i64 h, .int .i64 v])] w (RetI w 2 (rowValue c s i h v)) := by
  obtain ⟨i0, hi, hz0, hz1, hz2⟩ := info_parts info_int64
  cases hE : (valueOk c s i h v)
  all_goals
    go_enter Try.func97, Try.ntmps97
    go_wp2_with fail
    rw [run_method_direct (f := 201)]
    rotate_left
    · kernel_rfl
    go_wp2_with fail
    refine (c_Value_valid _ _ _ _ _ _).mono ?_
    rintro e w1 ⟨rfl, hb1⟩
    have hs1 := hb1.size
    rw [hE]
    go_wp2_with fail
  · rw [rowValue_f hE]
    go_ret
    exact ⟨_, _, rfl, owns_nil w1 _ _, hb1⟩
  · refine (c_kindOf_Value _ _ _ _ _ _).mono ?_
    rintro e w1 ⟨rfl, rfl⟩
    go_wp2_with fail
    rw [run_method_direct (f := 200)]
    rotate_left
    · kernel_rfl
    go_wp2_with fail
    refine (c_Value_fields _ _ _ _ _ _ yc ys yi yh yv).mono ?_
    rintro e w2 ⟨a2, c2, rfl, ho2, hb2⟩
    have ho1 := (owns_lit w1 w.heap.size 2 [7] hs1 (by simp) (by simp [inI64]))
    have Ho1 : Hid (IntsO w2 w.heap.size 2 (.slice (some ⟨w1.heap.size, 0, none⟩) [(7 : Int)].length 1) [7]) := ⟨ho1.1, ho1.2.1, owns_below ho1.2.2 hb2⟩
    have Ho2 := Lib.hid ho2.read
    have hz := hb2.size
    clear ho1 ho2
    go_wp2_with (at_builtin; refine wpList_append_ints rfl _ _ _ rfl w.heap.size 2 i0 Try.underlying22 hi hz0 hz1 hz2 _ _ _ _ [7] [c, s, i, h, v] rfl Ho1.out rfl Ho2.out (by simp) (by simp at hz; omega) (fun a3 c3 w3 ho3 hg3 => ?_))
    go_ret
    rw [rowValue_t hE]
    exact ⟨a3, c3, rfl, ho3, (bl_step hb2 (by simp; omega) (by (repeat (first | with_reducible exact Below.refl _ _ | ((with_reducible refine bl_alloc ?_ ?_); (focus (first | (simp; done) | (simp; omega) | omega))) | ((with_reducible refine bl_set ?_ ?_); (focus (first | (simp; done) | (simp; omega) | omega))) | ((with_reducible refine bl_later ?_ ?_); (focus (first | (simp; done) | (simp; omega) | omega))) | with_reducible refine bl_drew ?_ | with_reducible refine bl_drewN ?_ | ((with_reducible refine bl_step (by assumption) ?_ ?_); (focus (first | (simp; done) | (simp; omega) | omega))))))).grown hg3 (by simp at hz; omega) (by simp [Value.ownBlock]; omega)⟩
theorem c_impl_ValueRow (c s i h v : Int) (w : World) (yc : inI64 c) (ys : inI64 s) (yi : inI64 i) (yh : inI64 h) (yv : inI64 v) : Calls Try.prog 51 #[.agg #[.int .i64 c, .int .i64 s, .int .i64 i, .int .i64 h, .int .i64 v]] w (RetI w 2 (rowValue c s i h v)) := by
  go_enter Try.func51, Try.ntmps51
  go_wp2_with fail
  refine (c_encoded_Value _ _ _ _ _ _ yc ys yi yh yv).mono ?_
  rintro e w1 ⟨a1, c1, rfl, ho1, hb1⟩
  go_wp2_with fail
  go_ret
  exact ⟨a1, c1, rfl, ho1.lower (by simp), bl_step hb1 (by simp) (by (repeat (first | with_reducible exact Below.refl _ _ | ((with_reducible refine bl_alloc ?_ ?_); (focus (first | (simp; done) | (simp; omega) | omega))) | ((with_reducible refine bl_set ?_ ?_); (focus (first | (simp; done) | (simp; omega) | omega))) | ((with_reducible refine bl_later ?_ ?_); (focus (first | (simp; done) | (simp; omega) | omega))) | with_reducible refine bl_drew ?_ | with_reducible refine bl_drewN ?_ | ((with_reducible refine bl_step (by assumption) ?_ ?_); (focus (first | (simp; done) | (simp; omega) | omega))))))⟩
theorem c_law_ValueRow (c s i h v : Int) (w : World) (yc : inI64 c) (ys : inI64 s) (yi : inI64 i) (yh : inI64 h) (yv : inI64 v) : Calls Try.prog 11 #[.agg #[.int .i64 c, .int .i64 s, .int .i64 i, .int .i64 h, .int .i64 v]] w fun e w' => e = .returned (.bool true) ∧ Below w.heap.size w w' := by
  have hL : (rowValue c s i h v).length ≤ 1000 := by unfold rowValue; split <;> simp
  go_enter Try.func11, Try.ntmps11
  go_wp2_with fail
  have Bt := Bx.new w [.int .i64 c, .int .i64 s, .int .i64 i, .int .i64 h, .int .i64 v] 49
  have hb0 : Below w.heap.size w (w.alloc (.cells ([.int .i64 c, .int .i64 s, .int .i64 i, .int .i64 h, .int .i64 v] : List Value).toArray 49)) := by (repeat (first | with_reducible exact Below.refl _ _ | ((with_reducible refine bl_alloc ?_ ?_); (focus (first | (simp; done) | (simp; omega) | omega))) | ((with_reducible refine bl_set ?_ ?_); (focus (first | (simp; done) | (simp; omega) | omega))) | ((with_reducible refine bl_later ?_ ?_); (focus (first | (simp; done) | (simp; omega) | omega))) | with_reducible refine bl_drew ?_ | with_reducible refine bl_drewN ?_ | ((with_reducible refine bl_step (by assumption) ?_ ?_); (focus (first | (simp; done) | (simp; omega) | omega)))))
  refine (c_laws_toValue _ _ _ _ _ _).mono ?_
  rintro e w1 ⟨rfl, hb1⟩
  replace Bt := Bt.below hb1
  replace hb0 := bl_step hb1 hb0.size hb0
  clear hb1
  go_wp2_with fail
  refine (c_spec_ValueRow _ _ _ _ _ _ yc ys yi yh yv).mono ?_
  rintro e w2 ⟨a2, c2, rfl, ho2, hb2⟩
  have hbt := Bt.1
  have hlt2 := ho2.2.2.lt
  have hs0 := hb0.size
  have hs2 := hb2.size
  replace Bt := Bt.below hb2
  replace hb0 := bl_step hb2 hb0.size hb0
  clear hb2
  have hcell := Bt.2
  go_wp2_with fail
  refine (c_laws_toValue _ _ _ _ _ _).mono ?_
  rintro e w3 ⟨rfl, hb3⟩
  have hs3 := hb3.size
  replace Bt := Bt.below hb3
  replace hb0 := bl_step hb3 hb0.size hb0
  replace ho2 := ho2.below hb3
  clear hb3 hcell
  go_wp2_with fail
  refine (c_impl_ValueRow _ _ _ _ _ _ yc ys yi yh yv).mono ?_
  rintro e w4 ⟨a4, c4, rfl, ho4, hb4⟩
  have hlt4 := ho4.2.2.lt
  have hs4 := hb4.size
  replace Bt := Bt.below hb4
  replace hb0 := bl_step hb4 hb0.size hb0
  replace ho2 := ho2.below hb4
  clear hb4
  go_wp2_with fail
  refine (c_eqInt64S _ _ _ _ _ _ _ ho4.read ho2.read).mono ?_
  rintro e w5 ⟨rfl, hb5⟩
  have hs5 := hb5.size
  replace Bt := Bt.below hb5
  replace hb0 := bl_step hb5 hb0.size hb0
  replace ho2 := ho2.below hb5
  replace ho4 := ho4.below hb5
  clear hb5
  go_wp2_with fail
  refine (c_laws_markInt64S _ _ _ _ _ _ ho4 (by omega) (by omega) (by omega)).mono ?_
  rintro e w6 ⟨rfl, ho6, hg6, hz6⟩
  replace ho2 := ho2.kept (B := w3.heap.size) (fun k hk => Nat.lt_of_lt_of_le (hlt2 k hk).2 hs3) (fun k hk => (hlt4 k hk).1) hg6
  replace hb0 := hb0.grown hg6 hb0.size (fun k hk => Nat.le_trans (Nat.le_trans hs0 (Nat.le_trans hs2 hs3)) (hlt4 k hk).1)
  replace Bt := Bt.grown hg6 (fun e => by have := (hlt4 _ e).1; omega)
  clear ho4 hg6
  have Hz6 := Lib.hid hz6
  clear hz6
  have hcell := Bt.2
  go_wp2_with fail
  refine (c_laws_heldInt64S _ _ _ _ _ (read_seqI ho6) (by omega) (by omega) (by omega)).mono ?_
  rintro e w6 ⟨rfl, rfl⟩
  go_wp2_with fail
  refine (c_laws_toValue _ _ _ _ _ _).mono ?_
  rintro e w7 ⟨rfl, hb7⟩
  replace hb0 := bl_step hb7 hb0.size hb0
  replace ho2 := ho2.below hb7
  replace ho6 := ho6.below hb7
  clear hb7 hcell
  go_wp2_with fail
  refine (c_impl_ValueRow _ _ _ _ _ _ yc ys yi yh yv).mono ?_
  rintro e w8 ⟨a8, c8, rfl, ho8, hb8⟩
  replace hb0 := bl_step hb8 hb0.size hb0
  replace ho2 := ho2.below hb8
  replace ho6 := ho6.below hb8
  clear hb8
  go_wp2_with fail
  refine (c_eqInt64S _ _ _ _ _ _ _ ho8.read ho2.read).mono ?_
  rintro e w9 ⟨rfl, hb9⟩
  replace hb0 := bl_step hb9 hb0.size hb0
  replace ho6 := ho6.below hb9
  clear hb9
  go_wp2_with fail
  refine (c_laws_heldInt64S _ _ _ _ _ (read_seqI ho6) (by omega) (by omega) (by omega)).mono ?_
  rintro e w9 ⟨rfl, rfl⟩
  go_wp2_with fail
  go_ret
  exact ⟨rfl, hb0⟩

end Go.Proofs.Ytpfkfppooeikeaa
/- Walks of functions of the program, printed by a program of the prover. -/
namespace Go.Proofs.Ytpfkfppooeikeaa
open Go.RowKit
set_option maxHeartbeats 1600000
set_option maxRecDepth 100000
theorem c_clos_Value (ao : Option Addr) (cap : Nat) (c q i j v : Int) (w : World) (hh : IntsR w ao [c, q, i, j, v]) :
    Calls Try.prog 120 #[.slice ao 5 cap] w fun e w' => e = .returned (.agg #[.int .i64 c, .int .i64 q, .int .i64 i, .int .i64 j, .int .i64 v]) ∧ Below w.heap.size w w' := by
  obtain ⟨b0, off, rfl, hbl, hr0, hc⟩ := hh.at (k := 0) (by simp)
  have k0 := hc 0 (by simp)
  have k1 := hc 1 (by simp)
  have k2 := hc 2 (by simp)
  have k3 := hc 3 (by simp)
  have k4 := hc 4 (by simp)
  simp only [List.getElem_cons_zero, List.getElem_cons_succ, Nat.add_zero] at k0 k1 k2 k3 k4
  clear hc hh
  go_enter Try.func120, Try.ntmps120
  go_wp2_with fail
  refine restS_begin (fun W => W.cell? ⟨b0, off, none⟩ = some (.int .i64 c) ∧ W.cell? ⟨b0, off + 1, none⟩ = some (.int .i64 q) ∧ W.cell? ⟨b0, off + 2, none⟩ = some (.int .i64 i) ∧ W.cell? ⟨b0, off + 3, none⟩ = some (.int .i64 j) ∧ W.cell? ⟨b0, off + 4, none⟩ = some (.int .i64 v)) (by kernel_rfl) ?_ ?_
  · exact ⟨(World.cell?_alloc_lt _ _ _ hbl).trans k0, (World.cell?_alloc_lt _ _ _ hbl).trans k1, (World.cell?_alloc_lt _ _ _ hbl).trans k2, (World.cell?_alloc_lt _ _ _ hbl).trans k3, (World.cell?_alloc_lt _ _ _ hbl).trans k4⟩
  refine restS_take (v := ?_) 0 rfl (by kernel_rfl) (by kernel_rfl) (by kernel_rfl) (fun _ _ _ h => h) (by rfl) ?_ ?_
  rotate_left
  · intro w9 h9; try dsimp only at h9
    go_split_ands
    go_simp; try with_reducible rfl
  try simp only [Act.put, List.setIfInBounds_toArray, List.set_cons_zero, List.set_cons_succ]
  refine restS_take (v := ?_) 1 rfl (by kernel_rfl) (by kernel_rfl) (by kernel_rfl) (fun _ _ _ h => h) (by rfl) ?_ ?_
  rotate_left
  · intro w9 h9; try dsimp only at h9
    go_split_ands
    go_simp; try with_reducible rfl
  try simp only [Act.put, List.setIfInBounds_toArray, List.set_cons_zero, List.set_cons_succ]
  refine restS_take (v := ?_) 2 rfl (by kernel_rfl) (by kernel_rfl) (by kernel_rfl) (fun _ _ _ h => h) (by rfl) ?_ ?_
  rotate_left
  · intro w9 h9; try dsimp only at h9
    go_split_ands
    go_simp; try with_reducible rfl
  try simp only [Act.put, List.setIfInBounds_toArray, List.set_cons_zero, List.set_cons_succ]
  refine restS_take (v := ?_) 3 rfl (by kernel_rfl) (by kernel_rfl) (by kernel_rfl) (fun _ _ _ h => h) (by rfl) ?_ ?_
  rotate_left
  · intro w9 h9; try dsimp only at h9
    go_split_ands
    go_simp; try with_reducible rfl
  try simp only [Act.put, List.setIfInBounds_toArray, List.set_cons_zero, List.set_cons_succ]
  refine restS_take (v := ?_) 4 rfl (by kernel_rfl) (by kernel_rfl) (by kernel_rfl) (fun _ _ _ h => h) (by rfl) ?_ ?_
  rotate_left
  · intro w9 h9; try dsimp only at h9
    go_split_ands
    go_simp; try with_reducible rfl
  try simp only [Act.put, List.setIfInBounds_toArray, List.set_cons_zero, List.set_cons_succ]
  refine restS_take (v := ?_) 5 rfl (by kernel_rfl) (by kernel_rfl) (by kernel_rfl) (fun _ _ _ h => h) (by rfl) ?_ ?_
  rotate_left
  · intro w9 h9; try dsimp only at h9
    go_split_ands
    go_simp; try with_reducible rfl
  try simp only [Act.put, List.setIfInBounds_toArray, List.set_cons_zero, List.set_cons_succ]
  refine restS_take (v := ?_) 6 rfl (by kernel_rfl) (by kernel_rfl) (by kernel_rfl) (fun _ _ _ h => h) (by rfl) ?_ ?_
  rotate_left
  · intro w9 h9; try dsimp only at h9
    go_split_ands
    go_simp; try with_reducible rfl
  try simp only [Act.put, List.setIfInBounds_toArray, List.set_cons_zero, List.set_cons_succ]
  refine restS_take (v := ?_) 7 rfl (by kernel_rfl) (by kernel_rfl) (by kernel_rfl) (fun _ _ _ h => h) (by rfl) ?_ ?_
  rotate_left
  · intro w9 h9; try dsimp only at h9
    go_split_ands
    go_simp; try with_reducible rfl
  try simp only [Act.put, List.setIfInBounds_toArray, List.set_cons_zero, List.set_cons_succ]
  refine restS_take (v := ?_) 8 rfl (by kernel_rfl) (by kernel_rfl) (by kernel_rfl) (fun _ _ _ h => h) (by rfl) ?_ ?_
  rotate_left
  · intro w9 h9; try dsimp only at h9
    go_split_ands
    go_simp; try with_reducible rfl
  try simp only [Act.put, List.setIfInBounds_toArray, List.set_cons_zero, List.set_cons_succ]
  refine restS_take (v := ?_) 9 rfl (by kernel_rfl) (by kernel_rfl) (by kernel_rfl) (fun _ _ _ h => h) (by rfl) ?_ ?_
  rotate_left
  · intro w9 h9; try dsimp only at h9
    go_split_ands
    go_simp; try with_reducible rfl
  try simp only [Act.put, List.setIfInBounds_toArray, List.set_cons_zero, List.set_cons_succ]
  refine restS_take (v := ?_) 10 rfl (by kernel_rfl) (by kernel_rfl) (by kernel_rfl) (fun _ _ _ h => h) (by rfl) ?_ ?_
  rotate_left
  · intro w9 h9; try dsimp only at h9
    go_split_ands
    go_simp; try with_reducible rfl
  try simp only [Act.put, List.setIfInBounds_toArray, List.set_cons_zero, List.set_cons_succ]
  refine restS_take (v := ?_) 11 rfl (by kernel_rfl) (by kernel_rfl) (by kernel_rfl) (fun _ _ _ h => h) (by rfl) ?_ ?_
  rotate_left
  · intro w9 h9; try dsimp only at h9
    go_split_ands
    go_simp; try with_reducible rfl
  try simp only [Act.put, List.setIfInBounds_toArray, List.set_cons_zero, List.set_cons_succ]
  refine restS_take (v := ?_) 12 rfl (by kernel_rfl) (by kernel_rfl) (by kernel_rfl) (fun _ _ _ h => h) (by rfl) ?_ ?_
  rotate_left
  · intro w9 h9; try dsimp only at h9
    go_split_ands
    go_simp; try with_reducible rfl
  try simp only [Act.put, List.setIfInBounds_toArray, List.set_cons_zero, List.set_cons_succ]
  refine restS_take (v := ?_) 13 rfl (by kernel_rfl) (by kernel_rfl) (by kernel_rfl) (fun _ _ _ h => h) (by rfl) ?_ ?_
  rotate_left
  · intro w9 h9; try dsimp only at h9
    go_split_ands
    go_simp; try with_reducible rfl
  try simp only [Act.put, List.setIfInBounds_toArray, List.set_cons_zero, List.set_cons_succ]
  refine restS_take (v := ?_) 14 rfl (by kernel_rfl) (by kernel_rfl) (by kernel_rfl) (fun _ _ _ h => h) (by rfl) ?_ ?_
  rotate_left
  · intro w9 h9; try dsimp only at h9
    go_split_ands
    go_simp; try with_reducible rfl
  try simp only [Act.put, List.setIfInBounds_toArray, List.set_cons_zero, List.set_cons_succ]
  refine restS_take (v := ?_) 15 rfl (by kernel_rfl) (by kernel_rfl) (by kernel_rfl) (fun _ _ _ h => h) (by rfl) ?_ ?_
  rotate_left
  · intro w9 h9; try dsimp only at h9
    go_split_ands
    go_simp; try with_reducible rfl
  try simp only [Act.put, List.setIfInBounds_toArray, List.set_cons_zero, List.set_cons_succ]
  refine restS_alone 16 rfl (by kernel_rfl) (by rfl) (fun hS K hK => ?_)
  go_wp2_with fail
  refine hK.out _ _ ⟨(World.cell?_alloc_lt _ _ _ hbl).trans k0, (World.cell?_alloc_lt _ _ _ hbl).trans k1, (World.cell?_alloc_lt _ _ _ hbl).trans k2, (World.cell?_alloc_lt _ _ _ hbl).trans k3, (World.cell?_alloc_lt _ _ _ hbl).trans k4⟩ ?_
  clear hK K hS
  refine restS_done (by kernel_rfl) (fun hS => ?_)
  go_wp2_with fail
  refine bodyPost_ret (v := .agg #[.int .i64 c, .int .i64 q, .int .i64 i, .int .i64 j, .int .i64 v]) (by simp [results, Try.results120, go_sem, *]) rfl ⟨rfl, ?_⟩
  (repeat (first | with_reducible exact Below.refl _ _ | ((with_reducible refine bl_alloc ?_ ?_); (focus (first | (simp; done) | (simp; omega) | omega))) | ((with_reducible refine bl_set ?_ ?_); (focus (first | (simp; done) | (simp; omega) | omega))) | ((with_reducible refine bl_later ?_ ?_); (focus (first | (simp; done) | (simp; omega) | omega))) | with_reducible refine bl_drew ?_ | with_reducible refine bl_drewN ?_ | ((with_reducible refine bl_step (by assumption) ?_ ?_); (focus (first | (simp; done) | (simp; omega) | omega)))))
def isValue (l : List Int) : Bool := isB l 7 6 && (valueOk (l.getD 1 0) (l.getD 2 0) (l.getD 3 0) (l.getD 4 0) (l.getD 5 0))
def partsValue (l : List Int) : List Int := if isValue l then l.tail else [0, 0, 0, 0, 0]
theorem c_spec_RowValue (ao : Option Addr) (cap : Nat) (l : List Int) (w : World) (hh : IntsR w ao l) :
    Calls Try.prog 63 #[.slice ao l.length cap] w fun e w' => e = .returned (.tuple #[.agg ((partsValue l).map (Value.int .i64)).toArray, .bool (isValue l)]) ∧ Below w.heap.size w w' := by
  have hm := hh.2.1
  have h' : ∀ W, Below w.heap.size w W → IntsR W ao l := fun W hb => hh.below hb
  cases hi1 : isB l 7 6
  · have e1 : isValue l = false := by simp [isValue, hi1]
    have e2 : partsValue l = [0, 0, 0, 0, 0] := by simp [partsValue, e1]
    rw [e1, e2]
    simp only [List.map_cons, List.map_nil]
    go_enter Try.func63, Try.ntmps63
    go_wp2_with (go_at_call 116; refine (c_spec_l11Is _ _ 6 _ _ _ (h' _ (by (repeat (first | with_reducible exact Below.refl _ _ | ((with_reducible refine bl_alloc ?_ ?_); (focus (first | (simp; done) | (simp; omega) | omega))) | ((with_reducible refine bl_set ?_ ?_); (focus (first | (simp; done) | (simp; omega) | omega))) | ((with_reducible refine bl_later ?_ ?_); (focus (first | (simp; done) | (simp; omega) | omega))) | with_reducible refine bl_drew ?_ | with_reducible refine bl_drewN ?_ | ((with_reducible refine bl_step (by assumption) ?_ ?_); (focus (first | (simp; done) | (simp; omega) | omega))))))) (by omega) (by omega)).mono ?_; rintro e w' ⟨rfl, rfl⟩)
    refine bodyPost_ret (v := .tuple #[.agg #[.int .i64 0, .int .i64 0, .int .i64 0, .int .i64 0, .int .i64 0], .bool false]) (by simp [results, Try.results63, go_sem, *]) rfl ⟨rfl, ?_⟩
    (repeat (first | with_reducible exact Below.refl _ _ | ((with_reducible refine bl_alloc ?_ ?_); (focus (first | (simp; done) | (simp; omega) | omega))) | ((with_reducible refine bl_set ?_ ?_); (focus (first | (simp; done) | (simp; omega) | omega))) | ((with_reducible refine bl_later ?_ ?_); (focus (first | (simp; done) | (simp; omega) | omega))) | with_reducible refine bl_drew ?_ | with_reducible refine bl_drewN ?_ | ((with_reducible refine bl_step (by assumption) ?_ ?_); (focus (first | (simp; done) | (simp; omega) | omega)))))
  · obtain ⟨x0, c, q, i, j, v, rfl⟩ : ∃ x0 c q i j v, l = [x0, c, q, i, j, v] := by
      have hl : l.length = 6 := by simp [isB] at hi1; exact hi1.1
      match l, hl with | [x0, c, q, i, j, v], _ => exact ⟨x0, c, q, i, j, v, rfl⟩
    obtain ⟨b0, off, rfl, hbl, hr0, hc⟩ := hh.at (k := 1) (by simp)
    have k1 := hc 1 (by simp)
    have k2 := hc 2 (by simp)
    have k3 := hc 3 (by simp)
    have k4 := hc 4 (by simp)
    have k5 := hc 5 (by simp)
    clear hc
    simp only [List.getElem_cons_succ, List.getElem_cons_zero, List.length_cons, List.length_nil, Nat.zero_add, Nat.reduceAdd] at k1 k2 k3 k4 k5 hr0 hm hh h' ⊢
    cases hE : (valueOk c q i j v)
    · have e1 : isValue [x0, c, q, i, j, v] = false := by simp only [isValue, hi1, Bool.true_and]; exact hE
      have e2 : partsValue [x0, c, q, i, j, v] = [0, 0, 0, 0, 0] := by simp [partsValue, e1]
      rw [e1, e2]
      simp only [List.map_cons, List.map_nil]
      go_enter Try.func63, Try.ntmps63
      go_wp2_with (go_at_call 116; refine (c_spec_l11Is _ _ 6 _ [x0, c, q, i, j, v] _ (h' _ (by (repeat (first | with_reducible exact Below.refl _ _ | ((with_reducible refine bl_alloc ?_ ?_); (focus (first | (simp; done) | (simp; omega) | omega))) | ((with_reducible refine bl_set ?_ ?_); (focus (first | (simp; done) | (simp; omega) | omega))) | ((with_reducible refine bl_later ?_ ?_); (focus (first | (simp; done) | (simp; omega) | omega))) | with_reducible refine bl_drew ?_ | with_reducible refine bl_drewN ?_ | ((with_reducible refine bl_step (by assumption) ?_ ?_); (focus (first | (simp; done) | (simp; omega) | omega))))))) (by omega) (by omega)).mono ?_; rintro e w' ⟨rfl, rfl⟩)
      refine restS_begin (fun W => W.cell? ⟨b0, off + 1, none⟩ = some (.int .i64 c) ∧ W.cell? ⟨b0, off + 2, none⟩ = some (.int .i64 q) ∧ W.cell? ⟨b0, off + 3, none⟩ = some (.int .i64 i) ∧ W.cell? ⟨b0, off + 4, none⟩ = some (.int .i64 j) ∧ W.cell? ⟨b0, off + 5, none⟩ = some (.int .i64 v)) (by kernel_rfl) ?_ ?_
      · exact ⟨(World.cell?_alloc_lt _ _ _ hbl).trans k1, (World.cell?_alloc_lt _ _ _ hbl).trans k2, (World.cell?_alloc_lt _ _ _ hbl).trans k3, (World.cell?_alloc_lt _ _ _ hbl).trans k4, (World.cell?_alloc_lt _ _ _ hbl).trans k5⟩
      refine restS_take (v := ?_) 0 rfl (by kernel_rfl) (by kernel_rfl) (by kernel_rfl) (fun _ _ _ h => h) (by rfl) ?_ ?_
      rotate_left
      · intro w9 h9; try dsimp only at h9
        go_split_ands
        go_simp; try with_reducible rfl
      try simp only [Act.put, List.setIfInBounds_toArray, List.set_cons_zero, List.set_cons_succ]
      refine restS_take (v := ?_) 1 rfl (by kernel_rfl) (by kernel_rfl) (by kernel_rfl) (fun _ _ _ h => h) (by rfl) ?_ ?_
      rotate_left
      · intro w9 h9; try dsimp only at h9
        go_split_ands
        go_simp; try with_reducible rfl
      try simp only [Act.put, List.setIfInBounds_toArray, List.set_cons_zero, List.set_cons_succ]
      refine restS_take (v := ?_) 2 rfl (by kernel_rfl) (by kernel_rfl) (by kernel_rfl) (fun _ _ _ h => h) (by rfl) ?_ ?_
      rotate_left
      · intro w9 h9; try dsimp only at h9
        go_split_ands
        go_simp; try with_reducible rfl
      try simp only [Act.put, List.setIfInBounds_toArray, List.set_cons_zero, List.set_cons_succ]
      refine restS_take (v := ?_) 3 rfl (by kernel_rfl) (by kernel_rfl) (by kernel_rfl) (fun _ _ _ h => h) (by rfl) ?_ ?_
      rotate_left
      · intro w9 h9; try dsimp only at h9
        go_split_ands
        go_simp; try with_reducible rfl
      try simp only [Act.put, List.setIfInBounds_toArray, List.set_cons_zero, List.set_cons_succ]
      refine restS_take (v := ?_) 4 rfl (by kernel_rfl) (by kernel_rfl) (by kernel_rfl) (fun _ _ _ h => h) (by rfl) ?_ ?_
      rotate_left
      · intro w9 h9; try dsimp only at h9
        go_split_ands
        go_simp; try with_reducible rfl
      try simp only [Act.put, List.setIfInBounds_toArray, List.set_cons_zero, List.set_cons_succ]
      refine restS_take (v := ?_) 5 rfl (by kernel_rfl) (by kernel_rfl) (by kernel_rfl) (fun _ _ _ h => h) (by rfl) ?_ ?_
      rotate_left
      · intro w9 h9; try dsimp only at h9
        go_split_ands
        go_simp; try with_reducible rfl
      try simp only [Act.put, List.setIfInBounds_toArray, List.set_cons_zero, List.set_cons_succ]
      refine restS_take (v := ?_) 6 rfl (by kernel_rfl) (by kernel_rfl) (by kernel_rfl) (fun _ _ _ h => h) (by rfl) ?_ ?_
      rotate_left
      · intro w9 h9; try dsimp only at h9
        go_split_ands
        go_simp; try with_reducible rfl
      try simp only [Act.put, List.setIfInBounds_toArray, List.set_cons_zero, List.set_cons_succ]
      refine restS_take (v := ?_) 7 rfl (by kernel_rfl) (by kernel_rfl) (by kernel_rfl) (fun _ _ _ h => h) (by rfl) ?_ ?_
      rotate_left
      · intro w9 h9; try dsimp only at h9
        go_split_ands
        go_simp; try with_reducible rfl
      try simp only [Act.put, List.setIfInBounds_toArray, List.set_cons_zero, List.set_cons_succ]
      refine restS_take (v := ?_) 8 rfl (by kernel_rfl) (by kernel_rfl) (by kernel_rfl) (fun _ _ _ h => h) (by rfl) ?_ ?_
      rotate_left
      · intro w9 h9; try dsimp only at h9
        go_split_ands
        go_simp; try with_reducible rfl
      try simp only [Act.put, List.setIfInBounds_toArray, List.set_cons_zero, List.set_cons_succ]
      refine restS_take (v := ?_) 9 rfl (by kernel_rfl) (by kernel_rfl) (by kernel_rfl) (fun _ _ _ h => h) (by rfl) ?_ ?_
      rotate_left
      · intro w9 h9; try dsimp only at h9
        go_split_ands
        go_simp; try with_reducible rfl
      try simp only [Act.put, List.setIfInBounds_toArray, List.set_cons_zero, List.set_cons_succ]
      refine restS_take (v := ?_) 10 rfl (by kernel_rfl) (by kernel_rfl) (by kernel_rfl) (fun _ _ _ h => h) (by rfl) ?_ ?_
      rotate_left
      · intro w9 h9; try dsimp only at h9
        go_split_ands
        go_simp; try with_reducible rfl
      try simp only [Act.put, List.setIfInBounds_toArray, List.set_cons_zero, List.set_cons_succ]
      refine restS_take (v := ?_) 11 rfl (by kernel_rfl) (by kernel_rfl) (by kernel_rfl) (fun _ _ _ h => h) (by rfl) ?_ ?_
      rotate_left
      · intro w9 h9; try dsimp only at h9
        go_split_ands
        go_simp; try with_reducible rfl
      try simp only [Act.put, List.setIfInBounds_toArray, List.set_cons_zero, List.set_cons_succ]
      refine restS_take (v := ?_) 12 rfl (by kernel_rfl) (by kernel_rfl) (by kernel_rfl) (fun _ _ _ h => h) (by rfl) ?_ ?_
      rotate_left
      · intro w9 h9; try dsimp only at h9
        go_split_ands
        go_simp; try with_reducible rfl
      try simp only [Act.put, List.setIfInBounds_toArray, List.set_cons_zero, List.set_cons_succ]
      refine restS_take (v := ?_) 13 rfl (by kernel_rfl) (by kernel_rfl) (by kernel_rfl) (fun _ _ _ h => h) (by rfl) ?_ ?_
      rotate_left
      · intro w9 h9; try dsimp only at h9
        go_split_ands
        go_simp; try with_reducible rfl
      try simp only [Act.put, List.setIfInBounds_toArray, List.set_cons_zero, List.set_cons_succ]
      refine restS_take (v := ?_) 14 rfl (by kernel_rfl) (by kernel_rfl) (by kernel_rfl) (fun _ _ _ h => h) (by rfl) ?_ ?_
      rotate_left
      · intro w9 h9; try dsimp only at h9
        go_split_ands
        go_simp; try with_reducible rfl
      try simp only [Act.put, List.setIfInBounds_toArray, List.set_cons_zero, List.set_cons_succ]
      refine restS_take (v := ?_) 15 rfl (by kernel_rfl) (by kernel_rfl) (by kernel_rfl) (fun _ _ _ h => h) (by rfl) ?_ ?_
      rotate_left
      · intro w9 h9; try dsimp only at h9
        go_split_ands
        go_simp; try with_reducible rfl
      try simp only [Act.put, List.setIfInBounds_toArray, List.set_cons_zero, List.set_cons_succ]
      refine restS_alone 16 rfl (by kernel_rfl) (by rfl) (fun hS K hK => ?_)
      go_wp2_with fail
      refine hK.out _ _ ⟨(World.cell?_alloc_lt _ _ _ (by simp; omega)).trans ((World.cell?_alloc_lt _ _ _ hbl).trans k1), (World.cell?_alloc_lt _ _ _ (by simp; omega)).trans ((World.cell?_alloc_lt _ _ _ hbl).trans k2), (World.cell?_alloc_lt _ _ _ (by simp; omega)).trans ((World.cell?_alloc_lt _ _ _ hbl).trans k3), (World.cell?_alloc_lt _ _ _ (by simp; omega)).trans ((World.cell?_alloc_lt _ _ _ hbl).trans k4), (World.cell?_alloc_lt _ _ _ (by simp; omega)).trans ((World.cell?_alloc_lt _ _ _ hbl).trans k5)⟩ ?_
      clear hK K hS
      refine restS_alone 17 rfl (by kernel_rfl) (by rfl) (fun hS K hK => ?_)
      go_wp2_with fail
      refine hK.out _ _ ⟨(World.cell?_alloc_lt _ _ _ (by simp; omega)).trans ((World.cell?_alloc_lt _ _ _ hbl).trans k1), (World.cell?_alloc_lt _ _ _ (by simp; omega)).trans ((World.cell?_alloc_lt _ _ _ hbl).trans k2), (World.cell?_alloc_lt _ _ _ (by simp; omega)).trans ((World.cell?_alloc_lt _ _ _ hbl).trans k3), (World.cell?_alloc_lt _ _ _ (by simp; omega)).trans ((World.cell?_alloc_lt _ _ _ hbl).trans k4), (World.cell?_alloc_lt _ _ _ (by simp; omega)).trans ((World.cell?_alloc_lt _ _ _ hbl).trans k5)⟩ ?_
      clear hK K hS
      refine restS_done (by kernel_rfl) (fun hS => ?_)
      clear hS
      go_wp2_with (go_at_call 113; refine (c_spec_ValueOk _ _ _ _ _ _).mono ?_; rintro e w1 ⟨rfl, hb⟩; obtain ⟨hc, hf, hsz⟩ := bcell hb; have hz := hb.size; (try simp at hz); have q0 := (((Bx.new w [.int .i64 0, .int .i64 0, .int .i64 0, .int .i64 0, .int .i64 0] 51).alloc (.cells #[.int .i64 c, .int .i64 q, .int .i64 i, .int .i64 j, .int .i64 v] 51)).drew.below hb).2; have q1 := ((Bx.new (w.alloc (.cells #[.int .i64 0, .int .i64 0, .int .i64 0, .int .i64 0, .int .i64 0] 51)) [.int .i64 c, .int .i64 q, .int .i64 i, .int .i64 j, .int .i64 v] 51).drew.below hb).2; rw [World.size_alloc] at q1; clear hc)
      refine bodyPost_ret (v := .tuple #[.agg #[.int .i64 0, .int .i64 0, .int .i64 0, .int .i64 0, .int .i64 0], .bool false]) (by simp [results, Try.results63, go_sem, *]) rfl ⟨rfl, ?_⟩
      (repeat (first | with_reducible exact Below.refl _ _ | ((with_reducible refine bl_alloc ?_ ?_); (focus (first | (simp; done) | (simp; omega) | omega))) | ((with_reducible refine bl_set ?_ ?_); (focus (first | (simp; done) | (simp; omega) | omega))) | ((with_reducible refine bl_later ?_ ?_); (focus (first | (simp; done) | (simp; omega) | omega))) | with_reducible refine bl_drew ?_ | with_reducible refine bl_drewN ?_ | ((with_reducible refine bl_step (by assumption) ?_ ?_); (focus (first | (simp; done) | (simp; omega) | omega)))))
    · have e1 : isValue [x0, c, q, i, j, v] = true := by simp only [isValue, hi1, Bool.true_and]; exact hE
      have e2 : partsValue [x0, c, q, i, j, v] = [c, q, i, j, v] := by simp [partsValue, e1]
      rw [e1, e2]
      simp only [List.map_cons, List.map_nil]
      go_enter Try.func63, Try.ntmps63
      go_wp2_with (go_at_call 116; refine (c_spec_l11Is _ _ 6 _ [x0, c, q, i, j, v] _ (h' _ (by (repeat (first | with_reducible exact Below.refl _ _ | ((with_reducible refine bl_alloc ?_ ?_); (focus (first | (simp; done) | (simp; omega) | omega))) | ((with_reducible refine bl_set ?_ ?_); (focus (first | (simp; done) | (simp; omega) | omega))) | ((with_reducible refine bl_later ?_ ?_); (focus (first | (simp; done) | (simp; omega) | omega))) | with_reducible refine bl_drew ?_ | with_reducible refine bl_drewN ?_ | ((with_reducible refine bl_step (by assumption) ?_ ?_); (focus (first | (simp; done) | (simp; omega) | omega))))))) (by omega) (by omega)).mono ?_; rintro e w' ⟨rfl, rfl⟩)
      refine restS_begin (fun W => W.cell? ⟨b0, off + 1, none⟩ = some (.int .i64 c) ∧ W.cell? ⟨b0, off + 2, none⟩ = some (.int .i64 q) ∧ W.cell? ⟨b0, off + 3, none⟩ = some (.int .i64 i) ∧ W.cell? ⟨b0, off + 4, none⟩ = some (.int .i64 j) ∧ W.cell? ⟨b0, off + 5, none⟩ = some (.int .i64 v)) (by kernel_rfl) ?_ ?_
      · exact ⟨(World.cell?_alloc_lt _ _ _ hbl).trans k1, (World.cell?_alloc_lt _ _ _ hbl).trans k2, (World.cell?_alloc_lt _ _ _ hbl).trans k3, (World.cell?_alloc_lt _ _ _ hbl).trans k4, (World.cell?_alloc_lt _ _ _ hbl).trans k5⟩
      refine restS_take (v := ?_) 0 rfl (by kernel_rfl) (by kernel_rfl) (by kernel_rfl) (fun _ _ _ h => h) (by rfl) ?_ ?_
      rotate_left
      · intro w9 h9; try dsimp only at h9
        go_split_ands
        go_simp; try with_reducible rfl
      try simp only [Act.put, List.setIfInBounds_toArray, List.set_cons_zero, List.set_cons_succ]
      refine restS_take (v := ?_) 1 rfl (by kernel_rfl) (by kernel_rfl) (by kernel_rfl) (fun _ _ _ h => h) (by rfl) ?_ ?_
      rotate_left
      · intro w9 h9; try dsimp only at h9
        go_split_ands
        go_simp; try with_reducible rfl
      try simp only [Act.put, List.setIfInBounds_toArray, List.set_cons_zero, List.set_cons_succ]
      refine restS_take (v := ?_) 2 rfl (by kernel_rfl) (by kernel_rfl) (by kernel_rfl) (fun _ _ _ h => h) (by rfl) ?_ ?_
      rotate_left
      · intro w9 h9; try dsimp only at h9
        go_split_ands
        go_simp; try with_reducible rfl
      try simp only [Act.put, List.setIfInBounds_toArray, List.set_cons_zero, List.set_cons_succ]
      refine restS_take (v := ?_) 3 rfl (by kernel_rfl) (by kernel_rfl) (by kernel_rfl) (fun _ _ _ h => h) (by rfl) ?_ ?_
      rotate_left
      · intro w9 h9; try dsimp only at h9
        go_split_ands
        go_simp; try with_reducible rfl
      try simp only [Act.put, List.setIfInBounds_toArray, List.set_cons_zero, List.set_cons_succ]
      refine restS_take (v := ?_) 4 rfl (by kernel_rfl) (by kernel_rfl) (by kernel_rfl) (fun _ _ _ h => h) (by rfl) ?_ ?_
      rotate_left
      · intro w9 h9; try dsimp only at h9
        go_split_ands
        go_simp; try with_reducible rfl
      try simp only [Act.put, List.setIfInBounds_toArray, List.set_cons_zero, List.set_cons_succ]
      refine restS_take (v := ?_) 5 rfl (by kernel_rfl) (by kernel_rfl) (by kernel_rfl) (fun _ _ _ h => h) (by rfl) ?_ ?_
      rotate_left
      · intro w9 h9; try dsimp only at h9
        go_split_ands
        go_simp; try with_reducible rfl
      try simp only [Act.put, List.setIfInBounds_toArray, List.set_cons_zero, List.set_cons_succ]
      refine restS_take (v := ?_) 6 rfl (by kernel_rfl) (by kernel_rfl) (by kernel_rfl) (fun _ _ _ h => h) (by rfl) ?_ ?_
      rotate_left
      · intro w9 h9; try dsimp only at h9
        go_split_ands
        go_simp; try with_reducible rfl
      try simp only [Act.put, List.setIfInBounds_toArray, List.set_cons_zero, List.set_cons_succ]
      refine restS_take (v := ?_) 7 rfl (by kernel_rfl) (by kernel_rfl) (by kernel_rfl) (fun _ _ _ h => h) (by rfl) ?_ ?_
      rotate_left
      · intro w9 h9; try dsimp only at h9
        go_split_ands
        go_simp; try with_reducible rfl
      try simp only [Act.put, List.setIfInBounds_toArray, List.set_cons_zero, List.set_cons_succ]
      refine restS_take (v := ?_) 8 rfl (by kernel_rfl) (by kernel_rfl) (by kernel_rfl) (fun _ _ _ h => h) (by rfl) ?_ ?_
      rotate_left
      · intro w9 h9; try dsimp only at h9
        go_split_ands
        go_simp; try with_reducible rfl
      try simp only [Act.put, List.setIfInBounds_toArray, List.set_cons_zero, List.set_cons_succ]
      refine restS_take (v := ?_) 9 rfl (by kernel_rfl) (by kernel_rfl) (by kernel_rfl) (fun _ _ _ h => h) (by rfl) ?_ ?_
      rotate_left
      · intro w9 h9; try dsimp only at h9
        go_split_ands
        go_simp; try with_reducible rfl
      try simp only [Act.put, List.setIfInBounds_toArray, List.set_cons_zero, List.set_cons_succ]
      refine restS_take (v := ?_) 10 rfl (by kernel_rfl) (by kernel_rfl) (by kernel_rfl) (fun _ _ _ h => h) (by rfl) ?_ ?_
      rotate_left
      · intro w9 h9; try dsimp only at h9
        go_split_ands
        go_simp; try with_reducible rfl
      try simp only [Act.put, List.setIfInBounds_toArray, List.set_cons_zero, List.set_cons_succ]
      refine restS_take (v := ?_) 11 rfl (by kernel_rfl) (by kernel_rfl) (by kernel_rfl) (fun _ _ _ h => h) (by rfl) ?_ ?_
      rotate_left
      · intro w9 h9; try dsimp only at h9
        go_split_ands
        go_simp; try with_reducible rfl
      try simp only [Act.put, List.setIfInBounds_toArray, List.set_cons_zero, List.set_cons_succ]
      refine restS_take (v := ?_) 12 rfl (by kernel_rfl) (by kernel_rfl) (by kernel_rfl) (fun _ _ _ h => h) (by rfl) ?_ ?_
      rotate_left
      · intro w9 h9; try dsimp only at h9
        go_split_ands
        go_simp; try with_reducible rfl
      try simp only [Act.put, List.setIfInBounds_toArray, List.set_cons_zero, List.set_cons_succ]
      refine restS_take (v := ?_) 13 rfl (by kernel_rfl) (by kernel_rfl) (by kernel_rfl) (fun _ _ _ h => h) (by rfl) ?_ ?_
      rotate_left
      · intro w9 h9; try dsimp only at h9
        go_split_ands
        go_simp; try with_reducible rfl
      try simp only [Act.put, List.setIfInBounds_toArray, List.set_cons_zero, List.set_cons_succ]
      refine restS_take (v := ?_) 14 rfl (by kernel_rfl) (by kernel_rfl) (by kernel_rfl) (fun _ _ _ h => h) (by rfl) ?_ ?_
      rotate_left
      · intro w9 h9; try dsimp only at h9
        go_split_ands
        go_simp; try with_reducible rfl
      try simp only [Act.put, List.setIfInBounds_toArray, List.set_cons_zero, List.set_cons_succ]
      refine restS_take (v := ?_) 15 rfl (by kernel_rfl) (by kernel_rfl) (by kernel_rfl) (fun _ _ _ h => h) (by rfl) ?_ ?_
      rotate_left
      · intro w9 h9; try dsimp only at h9
        go_split_ands
        go_simp; try with_reducible rfl
      try simp only [Act.put, List.setIfInBounds_toArray, List.set_cons_zero, List.set_cons_succ]
      refine restS_alone 16 rfl (by kernel_rfl) (by rfl) (fun hS K hK => ?_)
      go_wp2_with fail
      refine hK.out _ _ ⟨(World.cell?_alloc_lt _ _ _ (by simp; omega)).trans ((World.cell?_alloc_lt _ _ _ hbl).trans k1), (World.cell?_alloc_lt _ _ _ (by simp; omega)).trans ((World.cell?_alloc_lt _ _ _ hbl).trans k2), (World.cell?_alloc_lt _ _ _ (by simp; omega)).trans ((World.cell?_alloc_lt _ _ _ hbl).trans k3), (World.cell?_alloc_lt _ _ _ (by simp; omega)).trans ((World.cell?_alloc_lt _ _ _ hbl).trans k4), (World.cell?_alloc_lt _ _ _ (by simp; omega)).trans ((World.cell?_alloc_lt _ _ _ hbl).trans k5)⟩ ?_
      clear hK K hS
      refine restS_alone 17 rfl (by kernel_rfl) (by rfl) (fun hS K hK => ?_)
      go_wp2_with fail
      refine hK.out _ _ ⟨(World.cell?_alloc_lt _ _ _ (by simp; omega)).trans ((World.cell?_alloc_lt _ _ _ hbl).trans k1), (World.cell?_alloc_lt _ _ _ (by simp; omega)).trans ((World.cell?_alloc_lt _ _ _ hbl).trans k2), (World.cell?_alloc_lt _ _ _ (by simp; omega)).trans ((World.cell?_alloc_lt _ _ _ hbl).trans k3), (World.cell?_alloc_lt _ _ _ (by simp; omega)).trans ((World.cell?_alloc_lt _ _ _ hbl).trans k4), (World.cell?_alloc_lt _ _ _ (by simp; omega)).trans ((World.cell?_alloc_lt _ _ _ hbl).trans k5)⟩ ?_
      clear hK K hS
      refine restS_done (by kernel_rfl) (fun hS => ?_)
      clear hS
      go_wp2_with (go_at_call 113; refine (c_spec_ValueOk _ _ _ _ _ _).mono ?_; rintro e w1 ⟨rfl, hb⟩; obtain ⟨hc, hf, hsz⟩ := bcell hb; have hz := hb.size; (try simp at hz); have q0 := (((Bx.new w [.int .i64 0, .int .i64 0, .int .i64 0, .int .i64 0, .int .i64 0] 51).alloc (.cells #[.int .i64 c, .int .i64 q, .int .i64 i, .int .i64 j, .int .i64 v] 51)).drew.below hb).2; have q1 := ((Bx.new (w.alloc (.cells #[.int .i64 0, .int .i64 0, .int .i64 0, .int .i64 0, .int .i64 0] 51)) [.int .i64 c, .int .i64 q, .int .i64 i, .int .i64 j, .int .i64 v] 51).drew.below hb).2; rw [World.size_alloc] at q1; clear hc)
      refine bodyPost_ret (v := .tuple #[.agg #[.int .i64 c, .int .i64 q, .int .i64 i, .int .i64 j, .int .i64 v], .bool true]) (by simp [results, Try.results63, go_sem, *]) rfl ⟨rfl, ?_⟩
      (repeat (first | with_reducible exact Below.refl _ _ | ((with_reducible refine bl_alloc ?_ ?_); (focus (first | (simp; done) | (simp; omega) | omega))) | ((with_reducible refine bl_set ?_ ?_); (focus (first | (simp; done) | (simp; omega) | omega))) | ((with_reducible refine bl_later ?_ ?_); (focus (first | (simp; done) | (simp; omega) | omega))) | with_reducible refine bl_drew ?_ | with_reducible refine bl_drewN ?_ | ((with_reducible refine bl_step (by assumption) ?_ ?_); (focus (first | (simp; done) | (simp; omega) | omega)))))
theorem c_decoded_Value_no (b0 off cap : Nat) (c q i j v : Int) (w : World) (hh : IntsR w (some ⟨b0, off, none⟩) [7, c, q, i, j, v]) (hcap : 6 ≤ cap) (hk : (kindOf [7, c, q, i, j, v] != 7) = false) (hE : (valueOk c q i j v) = false) :
    Calls Try.prog 119 #[.slice (some ⟨b0, off, none⟩) 6 cap, .int .i64 7, .int .i64 5, .int .i64 5, .func (Fn.func 120) #[] #[]] w fun e w' => e = .returned (.tuple #[.agg #[.int .i64 0, .int .i64 0, .int .i64 0, .int .i64 0, .int .i64 0], .bool false]) ∧ Below w.heap.size w w' := by
  have h' : ∀ W, Below w.heap.size w W → IntsR W (some ⟨b0, off, none⟩) [7, c, q, i, j, v] := fun W hb => hh.below hb
  have hr1 := hh.tail
  have hm := hh.2.1
  have Hr1 := Lib.hid hr1
  have H := Lib.hid hh
  go_enter Try.func119, Try.ntmps119
  go_wp2_with (go_at_call 90; refine (c_impl_KindOf _ _ [7, c, q, i, j, v] _ (h' _ (by (repeat (first | with_reducible exact Below.refl _ _ | ((with_reducible refine bl_alloc ?_ ?_); (focus (first | (simp; done) | (simp; omega) | omega))) | ((with_reducible refine bl_set ?_ ?_); (focus (first | (simp; done) | (simp; omega) | omega))) | ((with_reducible refine bl_later ?_ ?_); (focus (first | (simp; done) | (simp; omega) | omega))) | with_reducible refine bl_drew ?_ | with_reducible refine bl_drewN ?_ | ((with_reducible refine bl_step (by assumption) ?_ ?_); (focus (first | (simp; done) | (simp; omega) | omega)))))))).mono ?_; rintro e w' ⟨rfl, rfl⟩)
  have Bz := (Bx.new w [.int .i64 0, .int .i64 0, .int .i64 0, .int .i64 0, .int .i64 0] 51).alloc (.cells #[.int .i64 0, .int .i64 0, .int .i64 0, .int .i64 0, .int .i64 0] 51)
  have By := Bx.new (w.alloc (.cells #[.int .i64 0, .int .i64 0, .int .i64 0, .int .i64 0, .int .i64 0] 51)) [.int .i64 0, .int .i64 0, .int .i64 0, .int .i64 0, .int .i64 0] 51
  rw [World.size_alloc] at By
  have Bf := (Fx.new w [.int .i64 0, .int .i64 0, .int .i64 0, .int .i64 0, .int .i64 0] 51).alloc (.cells #[.int .i64 0, .int .i64 0, .int .i64 0, .int .i64 0, .int .i64 0] 51)
  have hbW : Below w.heap.size w ((w.alloc (.cells #[.int .i64 0, .int .i64 0, .int .i64 0, .int .i64 0, .int .i64 0] 51)).alloc (.cells #[.int .i64 0, .int .i64 0, .int .i64 0, .int .i64 0, .int .i64 0] 51)) := by (repeat (first | with_reducible exact Below.refl _ _ | ((with_reducible refine bl_alloc ?_ ?_); (focus (first | (simp; done) | (simp; omega) | omega))) | ((with_reducible refine bl_set ?_ ?_); (focus (first | (simp; done) | (simp; omega) | omega))) | ((with_reducible refine bl_later ?_ ?_); (focus (first | (simp; done) | (simp; omega) | omega))) | with_reducible refine bl_drew ?_ | with_reducible refine bl_drewN ?_ | ((with_reducible refine bl_step (by assumption) ?_ ?_); (focus (first | (simp; done) | (simp; omega) | omega)))))
  refine (c_clos_Value _ _ c q i j v _ (hr1.below hbW)).mono ?_
  rintro e w3 ⟨rfl, hb3⟩
  replace Bz := (Bz.below hb3).alloc (.cells #[.int .i64 c, .int .i64 q, .int .i64 i, .int .i64 j, .int .i64 v] 51) |>.drew
  replace By := (By.below hb3).alloc (.cells #[.int .i64 c, .int .i64 q, .int .i64 i, .int .i64 j, .int .i64 v] 51) |>.drew
  replace Bf := (Bf.below hb3).alloc (.cells #[.int .i64 c, .int .i64 q, .int .i64 i, .int .i64 j, .int .i64 v] 51) |>.drew
  have hz3 := hb3.size
  simp only [World.size_alloc] at hz3
  have hb4 : Below w.heap.size w (w3.alloc (.cells #[.int .i64 c, .int .i64 q, .int .i64 i, .int .i64 j, .int .i64 v] 51)).drew := ((bl_step hb3 (by simp; omega) hbW).alloc (by omega) _).drew
  have Bt := (Bx.new w3 [.int .i64 c, .int .i64 q, .int .i64 i, .int .i64 j, .int .i64 v] 51).drew
  go_wp2_with fail
  refine restS_begin (fun W => ∀ o, W.cell? ⟨w3.heap.size, o, none⟩ = ([.int .i64 c, .int .i64 q, .int .i64 i, .int .i64 j, .int .i64 v] : List Value)[o]?) (by kernel_rfl) Bt.2 ?_
  refine restS_take (v := ?_) 0 rfl (by kernel_rfl) (by kernel_rfl) (by kernel_rfl) (fun _ _ _ h => h) (by rfl) ?_ ?_
  rotate_left
  · intro w9 h9; try dsimp only at h9
    go_split_ands
    go_simp; try with_reducible rfl
  try simp only [Act.put, List.setIfInBounds_toArray, List.set_cons_zero, List.set_cons_succ]
  refine restS_take (v := ?_) 1 rfl (by kernel_rfl) (by kernel_rfl) (by kernel_rfl) (fun _ _ _ h => h) (by rfl) ?_ ?_
  rotate_left
  · intro w9 h9; try dsimp only at h9
    go_split_ands
    go_simp; try with_reducible rfl
  try simp only [Act.put, List.setIfInBounds_toArray, List.set_cons_zero, List.set_cons_succ]
  refine restS_alone 2 rfl (by kernel_rfl) (by rfl) (fun hS K hK => ?_)
  go_wp2_with fail
  rw [run_method_direct (f := 201)]
  rotate_left
  · kernel_rfl
  go_wp2_with fail
  refine (c_Value_valid c q i j v _).mono ?_
  rintro e w5 ⟨rfl, hb5⟩
  have Btw5 := Bt.below hb5
  go_wp2_with fail
  refine hK.out _ _ Btw5.2 ?_
  try simp only [Act.put, List.setIfInBounds_toArray, List.set_cons_zero, List.set_cons_succ]
  clear hK K hS
  refine restS_take (v := ?_) 3 rfl (by kernel_rfl) (by kernel_rfl) (by kernel_rfl) (fun _ _ _ h => h) (by rfl) ?_ ?_
  rotate_left
  · intro w9 h9; try dsimp only at h9
    go_split_ands
    go_simp; try with_reducible rfl
  try simp only [Act.put, List.setIfInBounds_toArray, List.set_cons_zero, List.set_cons_succ]
  refine restS_take (v := ?_) 4 rfl (by kernel_rfl) (by kernel_rfl) (by kernel_rfl) (fun _ _ _ h => h) (by rfl) ?_ ?_
  rotate_left
  · intro w9 h9; try dsimp only at h9
    go_split_ands
    go_simp; try with_reducible rfl
  try simp only [Act.put, List.setIfInBounds_toArray, List.set_cons_zero, List.set_cons_succ]
  refine restS_skip 5 rfl (by kernel_rfl) (by kernel_rfl) (by kernel_rfl) (fun _ _ _ h => h) (by rfl) ?_
  try simp only [Act.put, List.setIfInBounds_toArray, List.set_cons_zero, List.set_cons_succ]
  refine restS_skip 6 rfl (by kernel_rfl) (by kernel_rfl) (by kernel_rfl) (fun _ _ _ h => h) (by rfl) ?_
  try simp only [Act.put, List.setIfInBounds_toArray, List.set_cons_zero, List.set_cons_succ]
  refine restS_skip 8 rfl (by kernel_rfl) (by kernel_rfl) (by kernel_rfl) (fun _ _ _ h => h) (by rfl) ?_
  try simp only [Act.put, List.setIfInBounds_toArray, List.set_cons_zero, List.set_cons_succ]
  refine restS_skip 9 rfl (by kernel_rfl) (by kernel_rfl) (by kernel_rfl) (fun _ _ _ h => h) (by rfl) ?_
  try simp only [Act.put, List.setIfInBounds_toArray, List.set_cons_zero, List.set_cons_succ]
  refine restS_skip 7 rfl (by kernel_rfl) (by kernel_rfl) (by kernel_rfl) (fun _ _ _ h => h) (by rfl) ?_
  try simp only [Act.put, List.setIfInBounds_toArray, List.set_cons_zero, List.set_cons_succ]
  refine restS_skip 10 rfl (by kernel_rfl) (by kernel_rfl) (by kernel_rfl) (fun _ _ _ h => h) (by rfl) ?_
  try simp only [Act.put, List.setIfInBounds_toArray, List.set_cons_zero, List.set_cons_succ]
  refine restS_skip 11 rfl (by kernel_rfl) (by kernel_rfl) (by kernel_rfl) (fun _ _ _ h => h) (by rfl) ?_
  try simp only [Act.put, List.setIfInBounds_toArray, List.set_cons_zero, List.set_cons_succ]
  refine restS_take (v := ?_) 12 rfl (by kernel_rfl) (by kernel_rfl) (by kernel_rfl) (fun _ _ _ h => h) (by rfl) ?_ ?_
  rotate_left
  · intro w9 h9; try dsimp only at h9
    go_split_ands
    go_simp; try with_reducible rfl
  try simp only [Act.put, List.setIfInBounds_toArray, List.set_cons_zero, List.set_cons_succ]
  refine restS_done (by kernel_rfl) (fun hS => ?_)
  clear hS
  have q0 := (Bz.below hb5).2
  have q1 := (By.below hb5).2
  have q2 := Btw5.2
  have q3 := (Bf.below hb5).2
  have hz5 := hb5.size
  simp only [World.size_drew, World.size_alloc] at hz5
  have hb6 := bl_step hb5 hb4.size hb4
  go_wp2_with fail
  refine bodyPost_ret (v := .tuple #[.agg #[.int .i64 0, .int .i64 0, .int .i64 0, .int .i64 0, .int .i64 0], .bool false]) (by simp [results, Try.results119, go_sem, *]) rfl ⟨rfl, ?_⟩
  (repeat (first | with_reducible exact Below.refl _ _ | ((with_reducible refine bl_alloc ?_ ?_); (focus (first | (simp; done) | (simp; omega) | omega))) | ((with_reducible refine bl_set ?_ ?_); (focus (first | (simp; done) | (simp; omega) | omega))) | ((with_reducible refine bl_later ?_ ?_); (focus (first | (simp; done) | (simp; omega) | omega))) | with_reducible refine bl_drew ?_ | with_reducible refine bl_drewN ?_ | ((with_reducible refine bl_step (by assumption) ?_ ?_); (focus (first | (simp; done) | (simp; omega) | omega)))))
theorem c_decoded_Value_yes (b0 off cap : Nat) (c q i j v : Int) (w : World) (hh : IntsR w (some ⟨b0, off, none⟩) [7, c, q, i, j, v]) (hcap : 6 ≤ cap) (hk : (kindOf [7, c, q, i, j, v] != 7) = false) (hE : (valueOk c q i j v) = true) (yc : inI64 c) (yq : inI64 q) (yi : inI64 i) (yj : inI64 j) (yv : inI64 v) :
    Calls Try.prog 119 #[.slice (some ⟨b0, off, none⟩) 6 cap, .int .i64 7, .int .i64 5, .int .i64 5, .func (Fn.func 120) #[] #[]] w fun e w' => e = .returned (.tuple #[.agg #[.int .i64 c, .int .i64 q, .int .i64 i, .int .i64 j, .int .i64 v], .bool true]) ∧ Below w.heap.size w w' := by
  have h' : ∀ W, Below w.heap.size w W → IntsR W (some ⟨b0, off, none⟩) [7, c, q, i, j, v] := fun W hb => hh.below hb
  have hr1 := hh.tail
  have hm := hh.2.1
  have Hr1 := Lib.hid hr1
  have H := Lib.hid hh
  go_enter Try.func119, Try.ntmps119
  go_wp2_with (go_at_call 90; refine (c_impl_KindOf _ _ [7, c, q, i, j, v] _ (h' _ (by (repeat (first | with_reducible exact Below.refl _ _ | ((with_reducible refine bl_alloc ?_ ?_); (focus (first | (simp; done) | (simp; omega) | omega))) | ((with_reducible refine bl_set ?_ ?_); (focus (first | (simp; done) | (simp; omega) | omega))) | ((with_reducible refine bl_later ?_ ?_); (focus (first | (simp; done) | (simp; omega) | omega))) | with_reducible refine bl_drew ?_ | with_reducible refine bl_drewN ?_ | ((with_reducible refine bl_step (by assumption) ?_ ?_); (focus (first | (simp; done) | (simp; omega) | omega)))))))).mono ?_; rintro e w' ⟨rfl, rfl⟩)
  have Bz := (Bx.new w [.int .i64 0, .int .i64 0, .int .i64 0, .int .i64 0, .int .i64 0] 51).alloc (.cells #[.int .i64 0, .int .i64 0, .int .i64 0, .int .i64 0, .int .i64 0] 51)
  have By := Bx.new (w.alloc (.cells #[.int .i64 0, .int .i64 0, .int .i64 0, .int .i64 0, .int .i64 0] 51)) [.int .i64 0, .int .i64 0, .int .i64 0, .int .i64 0, .int .i64 0] 51
  rw [World.size_alloc] at By
  have Bf := (Fx.new w [.int .i64 0, .int .i64 0, .int .i64 0, .int .i64 0, .int .i64 0] 51).alloc (.cells #[.int .i64 0, .int .i64 0, .int .i64 0, .int .i64 0, .int .i64 0] 51)
  have hbW : Below w.heap.size w ((w.alloc (.cells #[.int .i64 0, .int .i64 0, .int .i64 0, .int .i64 0, .int .i64 0] 51)).alloc (.cells #[.int .i64 0, .int .i64 0, .int .i64 0, .int .i64 0, .int .i64 0] 51)) := by (repeat (first | with_reducible exact Below.refl _ _ | ((with_reducible refine bl_alloc ?_ ?_); (focus (first | (simp; done) | (simp; omega) | omega))) | ((with_reducible refine bl_set ?_ ?_); (focus (first | (simp; done) | (simp; omega) | omega))) | ((with_reducible refine bl_later ?_ ?_); (focus (first | (simp; done) | (simp; omega) | omega))) | with_reducible refine bl_drew ?_ | with_reducible refine bl_drewN ?_ | ((with_reducible refine bl_step (by assumption) ?_ ?_); (focus (first | (simp; done) | (simp; omega) | omega)))))
  refine (c_clos_Value _ _ c q i j v _ (hr1.below hbW)).mono ?_
  rintro e w3 ⟨rfl, hb3⟩
  replace Bz := (Bz.below hb3).alloc (.cells #[.int .i64 c, .int .i64 q, .int .i64 i, .int .i64 j, .int .i64 v] 51) |>.drew
  replace By := (By.below hb3).alloc (.cells #[.int .i64 c, .int .i64 q, .int .i64 i, .int .i64 j, .int .i64 v] 51) |>.drew
  replace Bf := (Bf.below hb3).alloc (.cells #[.int .i64 c, .int .i64 q, .int .i64 i, .int .i64 j, .int .i64 v] 51) |>.drew
  have hz3 := hb3.size
  simp only [World.size_alloc] at hz3
  have hb4 : Below w.heap.size w (w3.alloc (.cells #[.int .i64 c, .int .i64 q, .int .i64 i, .int .i64 j, .int .i64 v] 51)).drew := ((bl_step hb3 (by simp; omega) hbW).alloc (by omega) _).drew
  have Bt := (Bx.new w3 [.int .i64 c, .int .i64 q, .int .i64 i, .int .i64 j, .int .i64 v] 51).drew
  go_wp2_with fail
  refine restS_begin (fun W => ∀ o, W.cell? ⟨w3.heap.size, o, none⟩ = ([.int .i64 c, .int .i64 q, .int .i64 i, .int .i64 j, .int .i64 v] : List Value)[o]?) (by kernel_rfl) Bt.2 ?_
  refine restS_take (v := ?_) 0 rfl (by kernel_rfl) (by kernel_rfl) (by kernel_rfl) (fun _ _ _ h => h) (by rfl) ?_ ?_
  rotate_left
  · intro w9 h9; try dsimp only at h9
    go_split_ands
    go_simp; try with_reducible rfl
  try simp only [Act.put, List.setIfInBounds_toArray, List.set_cons_zero, List.set_cons_succ]
  refine restS_take (v := ?_) 1 rfl (by kernel_rfl) (by kernel_rfl) (by kernel_rfl) (fun _ _ _ h => h) (by rfl) ?_ ?_
  rotate_left
  · intro w9 h9; try dsimp only at h9
    go_split_ands
    go_simp; try with_reducible rfl
  try simp only [Act.put, List.setIfInBounds_toArray, List.set_cons_zero, List.set_cons_succ]
  refine restS_alone 2 rfl (by kernel_rfl) (by rfl) (fun hS K hK => ?_)
  go_wp2_with fail
  rw [run_method_direct (f := 201)]
  rotate_left
  · kernel_rfl
  go_wp2_with fail
  refine (c_Value_valid c q i j v _).mono ?_
  rintro e w5 ⟨rfl, hb5⟩
  have Btw5 := Bt.below hb5
  go_wp2_with fail
  refine hK.out _ _ Btw5.2 ?_
  try simp only [Act.put, List.setIfInBounds_toArray, List.set_cons_zero, List.set_cons_succ]
  clear hK K hS
  refine restS_take (v := ?_) 3 rfl (by kernel_rfl) (by kernel_rfl) (by kernel_rfl) (fun _ _ _ h => h) (by rfl) ?_ ?_
  rotate_left
  · intro w9 h9; try dsimp only at h9
    go_split_ands
    go_simp; try with_reducible rfl
  try simp only [Act.put, List.setIfInBounds_toArray, List.set_cons_zero, List.set_cons_succ]
  refine restS_take (v := ?_) 4 rfl (by kernel_rfl) (by kernel_rfl) (by kernel_rfl) (fun _ _ _ h => h) (by rfl) ?_ ?_
  rotate_left
  · intro w9 h9; try dsimp only at h9
    go_split_ands
    go_simp; try with_reducible rfl
  try simp only [Act.put, List.setIfInBounds_toArray, List.set_cons_zero, List.set_cons_succ]
  refine restS_take (v := ?_) 5 rfl (by kernel_rfl) (by kernel_rfl) (by kernel_rfl) (fun _ _ _ h => h) (by rfl) ?_ ?_
  rotate_left
  · intro w9 h9; try dsimp only at h9
    go_split_ands
    go_simp; try with_reducible rfl
  try simp only [Act.put, List.setIfInBounds_toArray, List.set_cons_zero, List.set_cons_succ]
  refine restS_take (v := ?_) 6 rfl (by kernel_rfl) (by kernel_rfl) (by kernel_rfl) (fun _ _ _ h => h) (by rfl) ?_ ?_
  rotate_left
  · intro w9 h9; try dsimp only at h9
    go_split_ands
    go_simp; try with_reducible rfl
  try simp only [Act.put, List.setIfInBounds_toArray, List.set_cons_zero, List.set_cons_succ]
  refine restS_take (v := ?_) 8 rfl (by kernel_rfl) (by kernel_rfl) (by kernel_rfl) (fun _ _ _ h => h) (by rfl) ?_ ?_
  rotate_left
  · intro w9 h9; try dsimp only at h9
    go_split_ands
    go_simp; try with_reducible rfl
  try simp only [Act.put, List.setIfInBounds_toArray, List.set_cons_zero, List.set_cons_succ]
  refine restS_take (v := ?_) 9 rfl (by kernel_rfl) (by kernel_rfl) (by kernel_rfl) (fun _ _ _ h => h) (by rfl) ?_ ?_
  rotate_left
  · intro w9 h9; try dsimp only at h9
    go_split_ands
    go_simp; try with_reducible rfl
  try simp only [Act.put, List.setIfInBounds_toArray, List.set_cons_zero, List.set_cons_succ]
  refine restS_alone 7 rfl (by kernel_rfl) (by rfl) (fun hS K hK => ?_)
  go_wp2_with fail
  rw [run_method_direct (f := 200)]
  rotate_left
  · kernel_rfl
  go_wp2_with fail
  refine (c_Value_fields c q i j v _ yc yq yi yj yv).mono ?_
  rintro e w6 ⟨a6, c6, rfl, ho6, hb6⟩
  have Btw6 := Btw5.below hb6
  go_wp2_with fail
  refine hK.out _ _ Btw6.2 ?_
  try simp only [Act.put, List.setIfInBounds_toArray, List.set_cons_zero, List.set_cons_succ]
  clear hK K hS
  refine restS_alone 10 rfl (by kernel_rfl) (by rfl) (fun hS K hK => ?_)
  go_wp2_with fail
  refine (c_SameRow _ _ _ _ [c, q, i, j, v] [c, q, i, j, v] _ ho6.read (((hr1.below hb4).below hb5).below hb6)).mono ?_
  rintro e w7 ⟨rfl, hb7⟩
  have Btw7 := Btw6.below hb7
  go_wp2_with fail
  refine hK.out _ _ Btw7.2 ?_
  try simp only [Act.put, List.setIfInBounds_toArray, List.set_cons_zero, List.set_cons_succ]
  clear hK K hS
  refine restS_take (v := ?_) 11 rfl (by kernel_rfl) (by kernel_rfl) (by kernel_rfl) (fun _ _ _ h => h) (by rfl) ?_ ?_
  rotate_left
  · intro w9 h9; try dsimp only at h9
    go_split_ands
    go_simp; try with_reducible rfl
  try simp only [Act.put, List.setIfInBounds_toArray, List.set_cons_zero, List.set_cons_succ]
  refine restS_take (v := ?_) 12 rfl (by kernel_rfl) (by kernel_rfl) (by kernel_rfl) (fun _ _ _ h => h) (by rfl) ?_ ?_
  rotate_left
  · intro w9 h9; try dsimp only at h9
    go_split_ands
    go_simp; try with_reducible rfl
  try simp only [Act.put, List.setIfInBounds_toArray, List.set_cons_zero, List.set_cons_succ]
  refine restS_done (by kernel_rfl) (fun hS => ?_)
  clear hS
  have q0 := (((Bz.below hb5).below hb6).below hb7).2
  have q1 := (((By.below hb5).below hb6).below hb7).2
  have q2 := Btw7.2
  have q3 := (((Bf.below hb5).below hb6).below hb7).2
  have hz5 := hb5.size
  have hz6 := hb6.size
  have hz7 := hb7.size
  simp only [World.size_drew, World.size_alloc] at hz5
  have hb8 := bl_step hb7 (Nat.le_trans hb4.size (Nat.le_trans hb5.size hb6.size)) (bl_step hb6 (Nat.le_trans hb4.size hb5.size) (bl_step hb5 hb4.size hb4))
  go_wp2_with fail
  refine bodyPost_ret (v := .tuple #[.agg #[.int .i64 c, .int .i64 q, .int .i64 i, .int .i64 j, .int .i64 v], .bool true]) (by simp [results, Try.results119, go_sem, *]) rfl ⟨rfl, ?_⟩
  (repeat (first | with_reducible exact Below.refl _ _ | ((with_reducible refine bl_alloc ?_ ?_); (focus (first | (simp; done) | (simp; omega) | omega))) | ((with_reducible refine bl_set ?_ ?_); (focus (first | (simp; done) | (simp; omega) | omega))) | ((with_reducible refine bl_later ?_ ?_); (focus (first | (simp; done) | (simp; omega) | omega))) | with_reducible refine bl_drew ?_ | with_reducible refine bl_drewN ?_ | ((with_reducible refine bl_step (by assumption) ?_ ?_); (focus (first | (simp; done) | (simp; omega) | omega)))))

end Go.Proofs.Ytpfkfppooeikeaa
/- Walks of functions of the program, printed by a program of the prover. -/
namespace Go.Proofs.Ytpfkfppooeikeaa
open Go.ChangeShapes Go.WideShapes Go.ChangeAt Go.RowKit Go.Deep
set_option maxHeartbeats 800000
set_option maxRecDepth 100000
theorem c_decoded_Value_bad (ao : Option Addr) (cap : Nat) (l : List Int) (w : World) (hh : IntsR w ao l) (hk : (kindOf l != 7) = true) :
    Calls Try.prog 119 #[.slice ao l.length cap, .int .i64 7, .int .i64 5, .int .i64 5, .func (Fn.func 120) #[] #[]] w fun e w' => e = .returned (.tuple #[.agg #[.int .i64 0, .int .i64 0, .int .i64 0, .int .i64 0, .int .i64 0], .bool false]) ∧ Below w.heap.size w w' := by
  have hm := hh.2.1
  have h' : ∀ W, Below w.heap.size w W → IntsR W ao l := fun W hb => hh.below hb
  go_enter Try.func119, Try.ntmps119
  go_wp2_with (go_at_call 90; refine (c_impl_KindOf _ _ l _ (h' _ (by (repeat (first | with_reducible exact Below.refl _ _ | ((with_reducible refine bl_alloc ?_ ?_); (focus (first | (simp; done) | (simp; omega) | omega))) | ((with_reducible refine bl_set ?_ ?_); (focus (first | (simp; done) | (simp; omega) | omega))) | ((with_reducible refine bl_later ?_ ?_); (focus (first | (simp; done) | (simp; omega) | omega))) | with_reducible refine bl_drew ?_ | with_reducible refine bl_drewN ?_ | ((with_reducible refine bl_step (by assumption) ?_ ?_); (focus (first | (simp; done) | (simp; omega) | omega)))))))).mono ?_; rintro e w' ⟨rfl, rfl⟩)
  refine bodyPost_ret (v := .tuple #[.agg #[.int .i64 0, .int .i64 0, .int .i64 0, .int .i64 0, .int .i64 0], .bool false]) (by simp [results, Try.results119, go_sem, *]) rfl ⟨rfl, ?_⟩
  (repeat (first | with_reducible exact Below.refl _ _ | ((with_reducible refine bl_alloc ?_ ?_); (focus (first | (simp; done) | (simp; omega) | omega))) | ((with_reducible refine bl_set ?_ ?_); (focus (first | (simp; done) | (simp; omega) | omega))) | ((with_reducible refine bl_later ?_ ?_); (focus (first | (simp; done) | (simp; omega) | omega))) | with_reducible refine bl_drew ?_ | with_reducible refine bl_drewN ?_ | ((with_reducible refine bl_step (by assumption) ?_ ?_); (focus (first | (simp; done) | (simp; omega) | omega)))))
theorem c_decoded_Value_len (ao : Option Addr) (cap : Nat) (l : List Int) (w : World) (hh : IntsR w ao l) (hk : (kindOf l != 7) = false) (h2 : l.length ≠ 6) :
    Calls Try.prog 119 #[.slice ao l.length cap, .int .i64 7, .int .i64 5, .int .i64 5, .func (Fn.func 120) #[] #[]] w fun e w' => e = .returned (.tuple #[.agg #[.int .i64 0, .int .i64 0, .int .i64 0, .int .i64 0, .int .i64 0], .bool false]) ∧ Below w.heap.size w w' := by
  have hm := hh.2.1
  obtain ⟨hl0, hl1, hd⟩ := kindOf_pos hk (by omega)
  clear hd
  have h' : ∀ W, Below w.heap.size w W → IntsR W ao l := fun W hb => hh.below hb
  by_cases h1 : l.length < 6
  · have e2 : decide ((l.length : Int) - 1 < 5) = true := by simp; omega
    go_enter Try.func119, Try.ntmps119
    go_wp2_with (go_at_call 90; refine (c_impl_KindOf _ _ l _ (h' _ (by (repeat (first | with_reducible exact Below.refl _ _ | ((with_reducible refine bl_alloc ?_ ?_); (focus (first | (simp; done) | (simp; omega) | omega))) | ((with_reducible refine bl_set ?_ ?_); (focus (first | (simp; done) | (simp; omega) | omega))) | ((with_reducible refine bl_later ?_ ?_); (focus (first | (simp; done) | (simp; omega) | omega))) | with_reducible refine bl_drew ?_ | with_reducible refine bl_drewN ?_ | ((with_reducible refine bl_step (by assumption) ?_ ?_); (focus (first | (simp; done) | (simp; omega) | omega)))))))).mono ?_; rintro e w' ⟨rfl, rfl⟩)
    refine bodyPost_ret (v := .tuple #[.agg #[.int .i64 0, .int .i64 0, .int .i64 0, .int .i64 0, .int .i64 0], .bool false]) (by simp [results, Try.results119, go_sem, *]) rfl ⟨rfl, ?_⟩
    (repeat (first | with_reducible exact Below.refl _ _ | ((with_reducible refine bl_alloc ?_ ?_); (focus (first | (simp; done) | (simp; omega) | omega))) | ((with_reducible refine bl_set ?_ ?_); (focus (first | (simp; done) | (simp; omega) | omega))) | ((with_reducible refine bl_later ?_ ?_); (focus (first | (simp; done) | (simp; omega) | omega))) | with_reducible refine bl_drew ?_ | with_reducible refine bl_drewN ?_ | ((with_reducible refine bl_step (by assumption) ?_ ?_); (focus (first | (simp; done) | (simp; omega) | omega)))))
  · have e2 : decide ((l.length : Int) - 1 < 5) = false := by simp; omega
    have e3 : decide (5 < (l.length : Int) - 1) = true := by simp; omega
    go_enter Try.func119, Try.ntmps119
    go_wp2_with (go_at_call 90; refine (c_impl_KindOf _ _ l _ (h' _ (by (repeat (first | with_reducible exact Below.refl _ _ | ((with_reducible refine bl_alloc ?_ ?_); (focus (first | (simp; done) | (simp; omega) | omega))) | ((with_reducible refine bl_set ?_ ?_); (focus (first | (simp; done) | (simp; omega) | omega))) | ((with_reducible refine bl_later ?_ ?_); (focus (first | (simp; done) | (simp; omega) | omega))) | with_reducible refine bl_drew ?_ | with_reducible refine bl_drewN ?_ | ((with_reducible refine bl_step (by assumption) ?_ ?_); (focus (first | (simp; done) | (simp; omega) | omega)))))))).mono ?_; rintro e w' ⟨rfl, rfl⟩)
    refine bodyPost_ret (v := .tuple #[.agg #[.int .i64 0, .int .i64 0, .int .i64 0, .int .i64 0, .int .i64 0], .bool false]) (by simp [results, Try.results119, go_sem, *]) rfl ⟨rfl, ?_⟩
    (repeat (first | with_reducible exact Below.refl _ _ | ((with_reducible refine bl_alloc ?_ ?_); (focus (first | (simp; done) | (simp; omega) | omega))) | ((with_reducible refine bl_set ?_ ?_); (focus (first | (simp; done) | (simp; omega) | omega))) | ((with_reducible refine bl_later ?_ ?_); (focus (first | (simp; done) | (simp; omega) | omega))) | with_reducible refine bl_drew ?_ | with_reducible refine bl_drewN ?_ | ((with_reducible refine bl_step (by assumption) ?_ ?_); (focus (first | (simp; done) | (simp; omega) | omega)))))
theorem isValue_len {l : List Int} (h : l.length ≠ 6) : isValue l = false := by simp [isValue, isB, h]
theorem isValue_ne {l : List Int} (h : (kindOf l != 7) = true) : isValue l = false := by
  cases hb : isB l 7 6
  · simp [isValue, hb]
  · obtain ⟨ix, hi1, hi2⟩ := kindOf_ne h (by omega) (by omega) (n := 6) (by omega) hb
    have hl : l.length = 6 := by simp [isB] at hb; exact hb.1
    match l, hl with
    | [x0, c, q, i, j, v], _ =>
      obtain rfl : x0 = 7 := by simp [isB] at hb; exact hb
      clear h hb
      simp only [numOk, List.length_cons, List.length_nil, Nat.zero_add, Nat.reduceAdd] at hi1 hi2
      have h01 : ix = 0 ∨ ix = 1 ∨ ix = 2 ∨ ix = 3 ∨ ix = 4 ∨ ix = 5 := by omega
      cases hx : isValue [7, c, q, i, j, v]
      · rfl
      · exfalso
        simp [isValue, isB, valueOk, foundB, inB] at hx
        rcases h01 with rfl | rfl | rfl | rfl | rfl | rfl <;> simp at hi2 <;> (first | omega | (split at hx <;> omega))
theorem partsValue_f {l : List Int} (h : isValue l = false) : partsValue l = [0, 0, 0, 0, 0] := by simp [partsValue, h]
theorem c_decoded_Value (ao : Option Addr) (cap : Nat) (l : List Int) (w : World) (hh : IntsR w ao l) (hcap : l.length ≤ cap) :
    Calls Try.prog 119 #[.slice ao l.length cap, .int .i64 7, .int .i64 5, .int .i64 5, .func (Fn.func 120) #[] #[]] w fun e w' => e = .returned (.tuple #[.agg ((partsValue l).map (Value.int .i64)).toArray, .bool (isValue l)]) ∧ Below w.heap.size w w' := by
  cases hk : (kindOf l != 7)
  · by_cases h2 : l.length = 6
    · obtain ⟨hl0, hl1, hd⟩ := kindOf_pos hk (by omega)
      obtain ⟨x0, c, q, i, j, v, rfl⟩ : ∃ x0 c q i j v, l = [x0, c, q, i, j, v] := by
        match l, h2 with | [x0, c, q, i, j, v], _ => exact ⟨x0, c, q, i, j, v, rfl⟩
      obtain ⟨b0, off, rfl, hbl, hr0, hc⟩ := hh.at (k := 1) (by simp)
      obtain rfl : x0 = 7 := by simpa using hd
      have hib : isB [7, c, q, i, j, v] 7 6 = true := rfl
      cases hE : (valueOk c q i j v)
      · have e1 : isValue [7, c, q, i, j, v] = false := by simp only [isValue, hib, Bool.true_and]; exact hE
        rw [partsValue_f e1, e1]
        exact c_decoded_Value_no b0 off cap c q i j v w hh hcap hk hE
      · have e1 : isValue [7, c, q, i, j, v] = true := by simp only [isValue, hib, Bool.true_and]; exact hE
        have e2 : partsValue [7, c, q, i, j, v] = [c, q, i, j, v] := by simp [partsValue, e1]
        rw [e2, e1]
        exact c_decoded_Value_yes b0 off cap c q i j v w hh hcap hk hE (hh.1 _ (by simp)) (hh.1 _ (by simp)) (hh.1 _ (by simp)) (hh.1 _ (by simp)) (hh.1 _ (by simp))
    · rw [partsValue_f (isValue_len h2), isValue_len h2]
      exact c_decoded_Value_len ao cap l w hh hk h2
  · rw [partsValue_f (isValue_ne hk), isValue_ne hk]
    exact c_decoded_Value_bad ao cap l w hh hk
theorem len_partsValue (l : List Int) : ∃ c q i j v, partsValue l = [c, q, i, j, v] := by
  unfold partsValue
  split
  · rename_i h
    have hl : l.length = 6 := by simp [isValue, isB] at h; exact h.1.1
    match l, hl with | [x0, c, q, i, j, v], _ => exact ⟨c, q, i, j, v, rfl⟩
  · exact ⟨0, 0, 0, 0, 0, rfl⟩
theorem c_impl_RowValue (ao : Option Addr) (cap : Nat) (l : List Int) (w : World) (hh : IntsR w ao l) (hcap : l.length ≤ cap) :
    Calls Try.prog 64 #[.slice ao l.length cap] w fun e w' => e = .returned (.tuple #[.agg ((partsValue l).map (Value.int .i64)).toArray, .bool (isValue l)]) ∧ Below w.heap.size w w' := by
  have key := c_decoded_Value ao cap l (w.alloc (.cells #[.int .i64 0, .int .i64 0, .int .i64 0, .int .i64 0, .int .i64 0] 51)) (hh.below (by (repeat (first | with_reducible exact Below.refl _ _ | ((with_reducible refine bl_alloc ?_ ?_); (focus (first | (simp; done) | (simp; omega) | omega))) | ((with_reducible refine bl_set ?_ ?_); (focus (first | (simp; done) | (simp; omega) | omega))) | ((with_reducible refine bl_later ?_ ?_); (focus (first | (simp; done) | (simp; omega) | omega))) | with_reducible refine bl_drew ?_ | with_reducible refine bl_drewN ?_ | ((with_reducible refine bl_step (by assumption) ?_ ?_); (focus (first | (simp; done) | (simp; omega) | omega))))))) hcap
  obtain ⟨c, q, i, j, v, hp⟩ := len_partsValue l
  rw [hp] at key ⊢
  simp only [List.map_cons, List.map_nil] at key ⊢
  clear hp
  go_enter Try.func64, Try.ntmps64
  go_wp2_with fail
  refine key.mono ?_
  rintro e w1 ⟨rfl, hb⟩
  have q0 := ((Bx.new w [.int .i64 0, .int .i64 0, .int .i64 0, .int .i64 0, .int .i64 0] 51).below hb).2
  have q1 := ((Fx.new w [.int .i64 0, .int .i64 0, .int .i64 0, .int .i64 0, .int .i64 0] 51).below hb).2
  have hz := hb.size
  simp only [World.size_alloc] at hz
  clear key
  go_wp2_with fail
  refine bodyPost_ret (v := .tuple #[.agg #[.int .i64 c, .int .i64 q, .int .i64 i, .int .i64 j, .int .i64 v], .bool (isValue l)]) (by simp [results, Try.results64, go_sem, *]) rfl ⟨rfl, ?_⟩
  (repeat (first | with_reducible exact Below.refl _ _ | ((with_reducible refine bl_alloc ?_ ?_); (focus (first | (simp; done) | (simp; omega) | omega))) | ((with_reducible refine bl_set ?_ ?_); (focus (first | (simp; done) | (simp; omega) | omega))) | ((with_reducible refine bl_later ?_ ?_); (focus (first | (simp; done) | (simp; omega) | omega))) | with_reducible refine bl_drew ?_ | with_reducible refine bl_drewN ?_ | ((with_reducible refine bl_step (by assumption) ?_ ?_); (focus (first | (simp; done) | (simp; omega) | omega)))))
theorem c_eqValue_same (c q i j v : Int) (w : World) : Calls Try.prog 65 #[.agg #[.int .i64 c, .int .i64 q, .int .i64 i, .int .i64 j, .int .i64 v], .agg #[.int .i64 c, .int .i64 q, .int .i64 i, .int .i64 j, .int .i64 v]] w fun e w' => e = .returned (.bool true) ∧ Below w.heap.size w w' := by
  go_enter Try.func65, Try.ntmps65
  go_wp2
  go_ret
  exact ⟨rfl, by (repeat (first | with_reducible exact Below.refl _ _ | ((with_reducible refine bl_alloc ?_ ?_); (focus (first | (simp; done) | (simp; omega) | omega))) | ((with_reducible refine bl_set ?_ ?_); (focus (first | (simp; done) | (simp; omega) | omega))) | ((with_reducible refine bl_later ?_ ?_); (focus (first | (simp; done) | (simp; omega) | omega))) | with_reducible refine bl_drew ?_ | with_reducible refine bl_drewN ?_ | ((with_reducible refine bl_step (by assumption) ?_ ?_); (focus (first | (simp; done) | (simp; omega) | omega)))))⟩

end Go.Proofs.Ytpfkfppooeikeaa
/- Walks of functions of the program, printed by a program of the prover. -/
namespace Go.Proofs.Ytpfkfppooeikeaa
open Go.RowKit
set_option maxHeartbeats 400000
set_option maxRecDepth 100000
theorem c_clos_fetch (ao : Option Addr) (cap : Nat) (x : Int) (w : World) (h : IntsR w ao [x]) :
    Calls Try.prog 100 #[.slice ao 1 cap] w fun e w' => e = .returned (.int .i64 x) ∧ w = w' := by
  obtain ⟨b, off, rfl, hbl, hr0, hc⟩ := h.at (k := 0) (by simp)
  have hck := hc 0 (by simp)
  clear hc
  simp only [List.getElem_cons_zero, Nat.add_zero] at hck hr0
  go_enter Try.func100, Try.ntmps100
  go_wp2
  go_ret
  exact ⟨rfl, rfl⟩
theorem c_decoded_fetch (ao : Option Addr) (cap : Nat) (l : List Int) (w : World) (h : IntsR w ao l) (hcap : l.length ≤ cap) :
    Calls Try.prog 99 #[.slice ao l.length cap, .int .i64 3, .int .i64 1, .int .i64 1, .func (Fn.func 100) #[] #[]] w fun e w' => e = .returned (.tuple #[.int .i64 (oneOf l 3 1 2001), .bool (oneIs l 3 1 2001)]) ∧ Below w.heap.size w w' := by
  have hm := h.2.1
  cases hk : (kindOf l != 3)
  · obtain ⟨hl0, hl1, hd⟩ := kindOf_pos hk (by omega)
    by_cases h2 : l.length = 2
    · obtain ⟨x0, x1, rfl⟩ : ∃ x0 x1, l = [x0, x1] := by
        match l, h2 with | [a, b], _ => exact ⟨a, b, rfl⟩
      obtain ⟨b, off, rfl, hbl, hr0, hc⟩ := h.at (k := 1) (by simp)
      have hr1 : IntsR w (some ⟨b, off + 1, none⟩) [x1] := h.tail
      obtain rfl : x0 = 3 := by simpa using hd
      clear hd hl0 hl1 h2 hc
      simp only [List.getElem_cons_succ, List.getElem_cons_zero, List.length_cons, List.length_nil, Nat.zero_add, Nat.reduceAdd] at hr0 hm h hcap ⊢
      have H := Lib.hid h
      have H1 := Lib.hid hr1
      cases hE : inB x1 1 2001
      · skip
        go_enter Try.func99, Try.ntmps99
        go_wp2_with (first | (go_at_call 90; refine (c_impl_KindOf _ _ [3, x1] _ h).mono ?_; rintro e w' ⟨rfl, rfl⟩) | (go_at_call 100; refine (c_clos_fetch _ _ x1 _ hr1).mono ?_; rintro e w' ⟨rfl, rfl⟩))
        refine rest_begin (by kernel_rfl) ?_
        refine rest_take (v := ?_) 0 rfl (by kernel_rfl) (by kernel_rfl) (by kernel_rfl) (fun _ _ _ h => h) (by rfl) ?_ ?_
        rotate_left
        · intro w9; go_simp; try with_reducible rfl
        try simp only [Act.put, List.setIfInBounds_toArray, List.set_cons_zero, List.set_cons_succ]
        refine rest_take (v := ?_) 1 rfl (by kernel_rfl) (by kernel_rfl) (by kernel_rfl) (fun _ _ _ h => h) (by rfl) ?_ ?_
        rotate_left
        · intro w9; go_simp; try with_reducible rfl
        try simp only [Act.put, List.setIfInBounds_toArray, List.set_cons_zero, List.set_cons_succ]
        refine rest_alone 2 rfl (by kernel_rfl) (by rfl) (fun K hK => ?_)
        go_wp2_with fail
        rw [run_method_direct (f := 216)]
        rotate_left
        · kernel_rfl
        go_wp2_with fail
        refine (c_fetch_valid x1 _).mono ?_
        rintro e w1 ⟨rfl, rfl⟩
        go_wp2_with fail
        refine hK.out _ _ ?_
        try simp only [Act.put, List.setIfInBounds_toArray, List.set_cons_zero, List.set_cons_succ]
        clear hK K
        refine rest_take (v := ?_) 3 rfl (by kernel_rfl) (by kernel_rfl) (by kernel_rfl) (fun _ _ _ h => h) (by rfl) ?_ ?_
        rotate_left
        · intro w9; go_simp; try with_reducible rfl
        try simp only [Act.put, List.setIfInBounds_toArray, List.set_cons_zero, List.set_cons_succ]
        refine rest_take (v := ?_) 4 rfl (by kernel_rfl) (by kernel_rfl) (by kernel_rfl) (fun _ _ _ h => h) (by rfl) ?_ ?_
        rotate_left
        · intro w9; go_simp; try with_reducible rfl
        try simp only [Act.put, List.setIfInBounds_toArray, List.set_cons_zero, List.set_cons_succ]
        refine rest_skip 5 rfl (by kernel_rfl) (by kernel_rfl) (by kernel_rfl) (fun _ _ _ h => h) (by rfl) ?_
        try simp only [Act.put, List.setIfInBounds_toArray, List.set_cons_zero, List.set_cons_succ]
        refine rest_skip 6 rfl (by kernel_rfl) (by kernel_rfl) (by kernel_rfl) (fun _ _ _ h => h) (by rfl) ?_
        try simp only [Act.put, List.setIfInBounds_toArray, List.set_cons_zero, List.set_cons_succ]
        refine rest_skip 8 rfl (by kernel_rfl) (by kernel_rfl) (by kernel_rfl) (fun _ _ _ h => h) (by rfl) ?_
        try simp only [Act.put, List.setIfInBounds_toArray, List.set_cons_zero, List.set_cons_succ]
        refine rest_skip 9 rfl (by kernel_rfl) (by kernel_rfl) (by kernel_rfl) (fun _ _ _ h => h) (by rfl) ?_
        try simp only [Act.put, List.setIfInBounds_toArray, List.set_cons_zero, List.set_cons_succ]
        refine rest_skip 7 rfl (by kernel_rfl) (by kernel_rfl) (by kernel_rfl) (fun _ _ _ h => h) (by rfl) ?_
        try simp only [Act.put, List.setIfInBounds_toArray, List.set_cons_zero, List.set_cons_succ]
        refine rest_skip 10 rfl (by kernel_rfl) (by kernel_rfl) (by kernel_rfl) (fun _ _ _ h => h) (by rfl) ?_
        try simp only [Act.put, List.setIfInBounds_toArray, List.set_cons_zero, List.set_cons_succ]
        refine rest_skip 11 rfl (by kernel_rfl) (by kernel_rfl) (by kernel_rfl) (fun _ _ _ h => h) (by rfl) ?_
        try simp only [Act.put, List.setIfInBounds_toArray, List.set_cons_zero, List.set_cons_succ]
        refine rest_take (v := ?_) 12 rfl (by kernel_rfl) (by kernel_rfl) (by kernel_rfl) (fun _ _ _ h => h) (by rfl) ?_ ?_
        rotate_left
        · intro w9; go_simp; try with_reducible rfl
        try simp only [Act.put, List.setIfInBounds_toArray, List.set_cons_zero, List.set_cons_succ]
        refine rest_done (by kernel_rfl) ?_
        go_wp2_with fail
        refine bodyPost_ret (v := .tuple #[.int .i64 0, .bool false]) (by simp [results, Try.results99, go_sem, *]) rfl ⟨by simp [oneOf, oneIs, isB, hE], (Below.refl _ _).drew⟩
      · skip
        go_enter Try.func99, Try.ntmps99
        go_wp2_with (first | (go_at_call 90; refine (c_impl_KindOf _ _ [3, x1] _ h).mono ?_; rintro e w' ⟨rfl, rfl⟩) | (go_at_call 100; refine (c_clos_fetch _ _ x1 _ hr1).mono ?_; rintro e w' ⟨rfl, rfl⟩))
        refine rest_begin (by kernel_rfl) ?_
        refine rest_take (v := ?_) 0 rfl (by kernel_rfl) (by kernel_rfl) (by kernel_rfl) (fun _ _ _ h => h) (by rfl) ?_ ?_
        rotate_left
        · intro w9; go_simp; try with_reducible rfl
        try simp only [Act.put, List.setIfInBounds_toArray, List.set_cons_zero, List.set_cons_succ]
        refine rest_take (v := ?_) 1 rfl (by kernel_rfl) (by kernel_rfl) (by kernel_rfl) (fun _ _ _ h => h) (by rfl) ?_ ?_
        rotate_left
        · intro w9; go_simp; try with_reducible rfl
        try simp only [Act.put, List.setIfInBounds_toArray, List.set_cons_zero, List.set_cons_succ]
        refine rest_alone 2 rfl (by kernel_rfl) (by rfl) (fun K hK => ?_)
        go_wp2_with fail
        rw [run_method_direct (f := 216)]
        rotate_left
        · kernel_rfl
        go_wp2_with fail
        refine (c_fetch_valid x1 _).mono ?_
        rintro e w1 ⟨rfl, rfl⟩
        go_wp2_with fail
        refine hK.out _ _ ?_
        try simp only [Act.put, List.setIfInBounds_toArray, List.set_cons_zero, List.set_cons_succ]
        clear hK K
        refine rest_take (v := ?_) 3 rfl (by kernel_rfl) (by kernel_rfl) (by kernel_rfl) (fun _ _ _ h => h) (by rfl) ?_ ?_
        rotate_left
        · intro w9; go_simp; try with_reducible rfl
        try simp only [Act.put, List.setIfInBounds_toArray, List.set_cons_zero, List.set_cons_succ]
        refine rest_take (v := ?_) 4 rfl (by kernel_rfl) (by kernel_rfl) (by kernel_rfl) (fun _ _ _ h => h) (by rfl) ?_ ?_
        rotate_left
        · intro w9; go_simp; try with_reducible rfl
        try simp only [Act.put, List.setIfInBounds_toArray, List.set_cons_zero, List.set_cons_succ]
        refine rest_take (v := ?_) 5 rfl (by kernel_rfl) (by kernel_rfl) (by kernel_rfl) (fun _ _ _ h => h) (by rfl) ?_ ?_
        rotate_left
        · intro w9; go_simp; try with_reducible rfl
        try simp only [Act.put, List.setIfInBounds_toArray, List.set_cons_zero, List.set_cons_succ]
        refine rest_take (v := ?_) 6 rfl (by kernel_rfl) (by kernel_rfl) (by kernel_rfl) (fun _ _ _ h => h) (by rfl) ?_ ?_
        rotate_left
        · intro w9; go_simp; try with_reducible rfl
        try simp only [Act.put, List.setIfInBounds_toArray, List.set_cons_zero, List.set_cons_succ]
        refine rest_take (v := ?_) 8 rfl (by kernel_rfl) (by kernel_rfl) (by kernel_rfl) (fun _ _ _ h => h) (by rfl) ?_ ?_
        rotate_left
        · intro w9; go_simp; try with_reducible rfl
        try simp only [Act.put, List.setIfInBounds_toArray, List.set_cons_zero, List.set_cons_succ]
        refine rest_take (v := ?_) 9 rfl (by kernel_rfl) (by kernel_rfl) (by kernel_rfl) (fun _ _ _ h => h) (by rfl) ?_ ?_
        rotate_left
        · intro w9; go_simp; try with_reducible rfl
        try simp only [Act.put, List.setIfInBounds_toArray, List.set_cons_zero, List.set_cons_succ]
        refine rest_alone 7 rfl (by kernel_rfl) (by rfl) (fun K hK => ?_)
        go_wp2_with fail
        rw [run_method_direct (f := 215)]
        rotate_left
        · kernel_rfl
        go_wp2_with fail
        refine (c_fetch_fields x1 _ hr0).mono ?_
        rintro e w1 ⟨a2, c2, rfl, ho2, hb2⟩
        go_wp2_with fail
        refine hK.out _ _ ?_
        try simp only [Act.put, List.setIfInBounds_toArray, List.set_cons_zero, List.set_cons_succ]
        clear hK K
        refine rest_alone 10 rfl (by kernel_rfl) (by rfl) (fun K hK => ?_)
        go_wp2_with fail
        refine (c_SameRow _ _ _ _ [x1] [x1] _ ho2.read ((hr1.below (Below.refl _ _).drew).below hb2)).mono ?_
        rintro e w2 ⟨rfl, hb3⟩
        go_wp2_with fail
        refine hK.out _ _ ?_
        try simp only [Act.put, List.setIfInBounds_toArray, List.set_cons_zero, List.set_cons_succ]
        clear hK K
        refine rest_take (v := ?_) 11 rfl (by kernel_rfl) (by kernel_rfl) (by kernel_rfl) (fun _ _ _ h => h) (by rfl) ?_ ?_
        rotate_left
        · intro w9; go_simp; try with_reducible rfl
        try simp only [Act.put, List.setIfInBounds_toArray, List.set_cons_zero, List.set_cons_succ]
        refine rest_take (v := ?_) 12 rfl (by kernel_rfl) (by kernel_rfl) (by kernel_rfl) (fun _ _ _ h => h) (by rfl) ?_ ?_
        rotate_left
        · intro w9; go_simp; try with_reducible rfl
        try simp only [Act.put, List.setIfInBounds_toArray, List.set_cons_zero, List.set_cons_succ]
        refine rest_done (by kernel_rfl) ?_
        go_wp2_with fail
        refine bodyPost_ret (v := .tuple #[.int .i64 x1, .bool true]) (by simp [results, Try.results99, go_sem, *]) rfl ⟨by simp [oneOf, oneIs, isB, hE], bl_step hb3 hb2.size (bl_step hb2 (Nat.le_refl _) (Below.refl _ _).drew)⟩
    · rw [oneIs_len h2, oneOf_f (oneIs_len h2)]
      clear hd
      by_cases h1 : l.length = 1
      · obtain ⟨x0, rfl⟩ : ∃ x0, l = [x0] := by match l, h1 with | [a], _ => exact ⟨a, rfl⟩
        clear h2 h1 hl0 hl1
        simp only [List.length_cons, List.length_nil, Nat.zero_add]
        go_enter Try.func99, Try.ntmps99
        go_wp2_with (go_at_call 90; refine (c_impl_KindOf _ _ [x0] _ h).mono ?_; rintro e w' ⟨rfl, rfl⟩)
        refine bodyPost_ret (v := .tuple #[.int .i64 0, .bool false]) (by simp [results, Try.results99, go_sem, *]) rfl ⟨rfl, Below.refl _ _⟩
      · have e2 : decide ((l.length : Int) - 1 < 1) = false := by simp; omega
        have e3 : decide (1 < (l.length : Int) - 1) = true := by simp; omega
        go_enter Try.func99, Try.ntmps99
        go_wp2_with (go_at_call 90; refine (c_impl_KindOf _ _ l _ h).mono ?_; rintro e w' ⟨rfl, rfl⟩)
        refine bodyPost_ret (v := .tuple #[.int .i64 0, .bool false]) (by simp [results, Try.results99, go_sem, *]) rfl ⟨rfl, Below.refl _ _⟩
  · have e1 := oneIs_ne (l := l) (k := 3) (lo := 1) (hi := 2001) hk (by omega) (by omega) (by omega) (by omega)
    rw [e1, oneOf_f e1]
    go_enter Try.func99, Try.ntmps99
    go_wp2_with (go_at_call 90; refine (c_impl_KindOf _ _ l _ h).mono ?_; rintro e w' ⟨rfl, rfl⟩)
    refine bodyPost_ret (v := .tuple #[.int .i64 0, .bool false]) (by simp [results, Try.results99, go_sem, *]) rfl ⟨rfl, Below.refl _ _⟩
theorem c_impl_RowFetch (ao : Option Addr) (cap : Nat) (l : List Int) (w : World) (h : IntsR w ao l) (hcap : l.length ≤ cap) :
    Calls Try.prog 36 #[.slice ao l.length cap] w fun e w' => e = .returned (.tuple #[.int .i64 (oneOf l 3 1 2001), .bool (oneIs l 3 1 2001)]) ∧ Below w.heap.size w w' := by
  go_enter Try.func36, Try.ntmps36
  go_wp2_with fail
  refine (c_decoded_fetch _ _ _ _ h hcap).mono ?_
  rintro e w1 ⟨rfl, hb⟩
  go_wp2_with fail
  refine bodyPost_ret (v := .tuple #[.int .i64 (oneOf l 3 1 2001), .bool (oneIs l 3 1 2001)]) (by simp [results, Try.results36, go_sem, *]) rfl ⟨rfl, hb⟩
theorem c_spec_RowFetch (ao : Option Addr) (cap : Nat) (l : List Int) (w : World) (h : IntsR w ao l) :
    Calls Try.prog 34 #[.slice ao l.length cap] w fun e w' => e = .returned (.tuple #[.int .i64 (oneOf l 3 1 2001), .bool (oneIs l 3 1 2001)]) ∧ w = w' := by
  go_enter Try.func34, Try.ntmps34
  go_wp2_with fail
  refine (c_spec_l11RowOne _ _ _ _ _ _ _ h).mono ?_
  rintro e w1 ⟨rfl, rfl⟩
  go_wp2_with fail
  refine bodyPost_ret (v := .tuple #[.int .i64 (oneOf l 3 1 2001), .bool (oneIs l 3 1 2001)]) (by simp [results, Try.results34, go_sem, *]) rfl ⟨rfl, rfl⟩
theorem c_law_RowFetch (ao : Option Addr) (cap : Nat) (l : List Int) (w : World) (h : IntsR w ao l) :
    Calls Try.prog 6 #[.slice ao l.length cap] w fun e w' => e = .returned (.bool true) ∧ Below w.heap.size w w' := by
  have hm := h.2.1
  by_cases hlen : 1048576 < l.length
  · go_enter Try.func6, Try.ntmps6
    go_wp2
    go_ret
    exact ⟨rfl, Below.refl _ _⟩
  · have hl2 : l.length ≤ 1048576 := by omega
    go_enter Try.func6, Try.ntmps6
    go_wp2_with fail
    refine (c_toInt64S _ _ _ _ h (by omega)).mono ?_
    rintro e w1 ⟨a1, c1, rfl, ho1, hb1⟩
    go_wp2_with fail
    refine (c_spec_RowFetch _ _ _ _ ho1.read).mono ?_
    rintro e w1 ⟨rfl, rfl⟩
    go_wp2_with fail
    refine (c_toInt64S _ _ _ _ (h.below hb1) (by omega)).mono ?_
    rintro e w2 ⟨a2, c2, rfl, ho2, hb2⟩
    go_wp2_with fail
    refine (c_impl_RowFetch _ _ _ _ ho2.read ho2.cap).mono ?_
    rintro e w3 ⟨rfl, hb3⟩
    go_wp2_with fail
    refine (c_toInt64S _ _ _ _ (((h.below hb1).below hb2).below hb3) (by omega)).mono ?_
    rintro e w4 ⟨a4, c4, rfl, ho4, hb4⟩
    go_wp2_with fail
    refine (c_eqInt64S _ _ _ _ _ _ _ ((ho2.read.below hb3).below hb4) ho4.read).mono ?_
    rintro e w5 ⟨rfl, hb5⟩
    have hs1 := hb1.size
    have hs2 := hb2.size
    have hs3 := hb3.size
    have hs4 := hb4.size
    go_wp2_with fail
    go_ret
    exact ⟨by simp, bl_step hb5 (by omega) (bl_step hb4 (by omega) (bl_step hb3 (by omega) (bl_step hb2 (by omega) hb1)))⟩

end Go.Proofs.Ytpfkfppooeikeaa
/- Walks of functions of the program, printed by a program of the prover. -/
namespace Go.Proofs.Ytpfkfppooeikeaa
open Go.RowKit
set_option maxHeartbeats 400000
set_option maxRecDepth 100000
theorem c_clos_poll (ao : Option Addr) (cap : Nat) (x : Int) (w : World) (h : IntsR w ao [x]) :
    Calls Try.prog 104 #[.slice ao 1 cap] w fun e w' => e = .returned (.int .i64 x) ∧ w = w' := by
  obtain ⟨b, off, rfl, hbl, hr0, hc⟩ := h.at (k := 0) (by simp)
  have hck := hc 0 (by simp)
  clear hc
  simp only [List.getElem_cons_zero, Nat.add_zero] at hck hr0
  go_enter Try.func104, Try.ntmps104
  go_wp2
  go_ret
  exact ⟨rfl, rfl⟩
theorem c_decoded_poll (ao : Option Addr) (cap : Nat) (l : List Int) (w : World) (h : IntsR w ao l) (hcap : l.length ≤ cap) :
    Calls Try.prog 103 #[.slice ao l.length cap, .int .i64 8, .int .i64 1, .int .i64 1, .func (Fn.func 104) #[] #[]] w fun e w' => e = .returned (.tuple #[.int .i64 (oneOf l 8 2 3), .bool (oneIs l 8 2 3)]) ∧ Below w.heap.size w w' := by
  have hm := h.2.1
  cases hk : (kindOf l != 8)
  · obtain ⟨hl0, hl1, hd⟩ := kindOf_pos hk (by omega)
    by_cases h2 : l.length = 2
    · obtain ⟨x0, x1, rfl⟩ : ∃ x0 x1, l = [x0, x1] := by
        match l, h2 with | [a, b], _ => exact ⟨a, b, rfl⟩
      obtain ⟨b, off, rfl, hbl, hr0, hc⟩ := h.at (k := 1) (by simp)
      have hr1 : IntsR w (some ⟨b, off + 1, none⟩) [x1] := h.tail
      obtain rfl : x0 = 8 := by simpa using hd
      clear hd hl0 hl1 h2 hc
      simp only [List.getElem_cons_succ, List.getElem_cons_zero, List.length_cons, List.length_nil, Nat.zero_add, Nat.reduceAdd] at hr0 hm h hcap ⊢
      have H := Lib.hid h
      have H1 := Lib.hid hr1
      cases hE : inB x1 2 3
      · skip
        go_enter Try.func103, Try.ntmps103
        go_wp2_with (first | (go_at_call 90; refine (c_impl_KindOf _ _ [8, x1] _ h).mono ?_; rintro e w' ⟨rfl, rfl⟩) | (go_at_call 104; refine (c_clos_poll _ _ x1 _ hr1).mono ?_; rintro e w' ⟨rfl, rfl⟩))
        refine rest_begin (by kernel_rfl) ?_
        refine rest_take (v := ?_) 0 rfl (by kernel_rfl) (by kernel_rfl) (by kernel_rfl) (fun _ _ _ h => h) (by rfl) ?_ ?_
        rotate_left
        · intro w9; go_simp; try with_reducible rfl
        try simp only [Act.put, List.setIfInBounds_toArray, List.set_cons_zero, List.set_cons_succ]
        refine rest_take (v := ?_) 1 rfl (by kernel_rfl) (by kernel_rfl) (by kernel_rfl) (fun _ _ _ h => h) (by rfl) ?_ ?_
        rotate_left
        · intro w9; go_simp; try with_reducible rfl
        try simp only [Act.put, List.setIfInBounds_toArray, List.set_cons_zero, List.set_cons_succ]
        refine rest_alone 2 rfl (by kernel_rfl) (by rfl) (fun K hK => ?_)
        go_wp2_with fail
        rw [run_method_direct (f := 220)]
        rotate_left
        · kernel_rfl
        go_wp2_with fail
        refine (c_poll_valid x1 _).mono ?_
        rintro e w1 ⟨rfl, rfl⟩
        go_wp2_with fail
        refine hK.out _ _ ?_
        try simp only [Act.put, List.setIfInBounds_toArray, List.set_cons_zero, List.set_cons_succ]
        clear hK K
        refine rest_take (v := ?_) 3 rfl (by kernel_rfl) (by kernel_rfl) (by kernel_rfl) (fun _ _ _ h => h) (by rfl) ?_ ?_
        rotate_left
        · intro w9; go_simp; try with_reducible rfl
        try simp only [Act.put, List.setIfInBounds_toArray, List.set_cons_zero, List.set_cons_succ]
        refine rest_take (v := ?_) 4 rfl (by kernel_rfl) (by kernel_rfl) (by kernel_rfl) (fun _ _ _ h => h) (by rfl) ?_ ?_
        rotate_left
        · intro w9; go_simp; try with_reducible rfl
        try simp only [Act.put, List.setIfInBounds_toArray, List.set_cons_zero, List.set_cons_succ]
        refine rest_skip 5 rfl (by kernel_rfl) (by kernel_rfl) (by kernel_rfl) (fun _ _ _ h => h) (by rfl) ?_
        try simp only [Act.put, List.setIfInBounds_toArray, List.set_cons_zero, List.set_cons_succ]
        refine rest_skip 6 rfl (by kernel_rfl) (by kernel_rfl) (by kernel_rfl) (fun _ _ _ h => h) (by rfl) ?_
        try simp only [Act.put, List.setIfInBounds_toArray, List.set_cons_zero, List.set_cons_succ]
        refine rest_skip 8 rfl (by kernel_rfl) (by kernel_rfl) (by kernel_rfl) (fun _ _ _ h => h) (by rfl) ?_
        try simp only [Act.put, List.setIfInBounds_toArray, List.set_cons_zero, List.set_cons_succ]
        refine rest_skip 9 rfl (by kernel_rfl) (by kernel_rfl) (by kernel_rfl) (fun _ _ _ h => h) (by rfl) ?_
        try simp only [Act.put, List.setIfInBounds_toArray, List.set_cons_zero, List.set_cons_succ]
        refine rest_skip 7 rfl (by kernel_rfl) (by kernel_rfl) (by kernel_rfl) (fun _ _ _ h => h) (by rfl) ?_
        try simp only [Act.put, List.setIfInBounds_toArray, List.set_cons_zero, List.set_cons_succ]
        refine rest_skip 10 rfl (by kernel_rfl) (by kernel_rfl) (by kernel_rfl) (fun _ _ _ h => h) (by rfl) ?_
        try simp only [Act.put, List.setIfInBounds_toArray, List.set_cons_zero, List.set_cons_succ]
        refine rest_skip 11 rfl (by kernel_rfl) (by kernel_rfl) (by kernel_rfl) (fun _ _ _ h => h) (by rfl) ?_
        try simp only [Act.put, List.setIfInBounds_toArray, List.set_cons_zero, List.set_cons_succ]
        refine rest_take (v := ?_) 12 rfl (by kernel_rfl) (by kernel_rfl) (by kernel_rfl) (fun _ _ _ h => h) (by rfl) ?_ ?_
        rotate_left
        · intro w9; go_simp; try with_reducible rfl
        try simp only [Act.put, List.setIfInBounds_toArray, List.set_cons_zero, List.set_cons_succ]
        refine rest_done (by kernel_rfl) ?_
        go_wp2_with fail
        refine bodyPost_ret (v := .tuple #[.int .i64 0, .bool false]) (by simp [results, Try.results103, go_sem, *]) rfl ⟨by simp [oneOf, oneIs, isB, hE], (Below.refl _ _).drew⟩
      · skip
        go_enter Try.func103, Try.ntmps103
        go_wp2_with (first | (go_at_call 90; refine (c_impl_KindOf _ _ [8, x1] _ h).mono ?_; rintro e w' ⟨rfl, rfl⟩) | (go_at_call 104; refine (c_clos_poll _ _ x1 _ hr1).mono ?_; rintro e w' ⟨rfl, rfl⟩))
        refine rest_begin (by kernel_rfl) ?_
        refine rest_take (v := ?_) 0 rfl (by kernel_rfl) (by kernel_rfl) (by kernel_rfl) (fun _ _ _ h => h) (by rfl) ?_ ?_
        rotate_left
        · intro w9; go_simp; try with_reducible rfl
        try simp only [Act.put, List.setIfInBounds_toArray, List.set_cons_zero, List.set_cons_succ]
        refine rest_take (v := ?_) 1 rfl (by kernel_rfl) (by kernel_rfl) (by kernel_rfl) (fun _ _ _ h => h) (by rfl) ?_ ?_
        rotate_left
        · intro w9; go_simp; try with_reducible rfl
        try simp only [Act.put, List.setIfInBounds_toArray, List.set_cons_zero, List.set_cons_succ]
        refine rest_alone 2 rfl (by kernel_rfl) (by rfl) (fun K hK => ?_)
        go_wp2_with fail
        rw [run_method_direct (f := 220)]
        rotate_left
        · kernel_rfl
        go_wp2_with fail
        refine (c_poll_valid x1 _).mono ?_
        rintro e w1 ⟨rfl, rfl⟩
        go_wp2_with fail
        refine hK.out _ _ ?_
        try simp only [Act.put, List.setIfInBounds_toArray, List.set_cons_zero, List.set_cons_succ]
        clear hK K
        refine rest_take (v := ?_) 3 rfl (by kernel_rfl) (by kernel_rfl) (by kernel_rfl) (fun _ _ _ h => h) (by rfl) ?_ ?_
        rotate_left
        · intro w9; go_simp; try with_reducible rfl
        try simp only [Act.put, List.setIfInBounds_toArray, List.set_cons_zero, List.set_cons_succ]
        refine rest_take (v := ?_) 4 rfl (by kernel_rfl) (by kernel_rfl) (by kernel_rfl) (fun _ _ _ h => h) (by rfl) ?_ ?_
        rotate_left
        · intro w9; go_simp; try with_reducible rfl
        try simp only [Act.put, List.setIfInBounds_toArray, List.set_cons_zero, List.set_cons_succ]
        refine rest_take (v := ?_) 5 rfl (by kernel_rfl) (by kernel_rfl) (by kernel_rfl) (fun _ _ _ h => h) (by rfl) ?_ ?_
        rotate_left
        · intro w9; go_simp; try with_reducible rfl
        try simp only [Act.put, List.setIfInBounds_toArray, List.set_cons_zero, List.set_cons_succ]
        refine rest_take (v := ?_) 6 rfl (by kernel_rfl) (by kernel_rfl) (by kernel_rfl) (fun _ _ _ h => h) (by rfl) ?_ ?_
        rotate_left
        · intro w9; go_simp; try with_reducible rfl
        try simp only [Act.put, List.setIfInBounds_toArray, List.set_cons_zero, List.set_cons_succ]
        refine rest_take (v := ?_) 8 rfl (by kernel_rfl) (by kernel_rfl) (by kernel_rfl) (fun _ _ _ h => h) (by rfl) ?_ ?_
        rotate_left
        · intro w9; go_simp; try with_reducible rfl
        try simp only [Act.put, List.setIfInBounds_toArray, List.set_cons_zero, List.set_cons_succ]
        refine rest_take (v := ?_) 9 rfl (by kernel_rfl) (by kernel_rfl) (by kernel_rfl) (fun _ _ _ h => h) (by rfl) ?_ ?_
        rotate_left
        · intro w9; go_simp; try with_reducible rfl
        try simp only [Act.put, List.setIfInBounds_toArray, List.set_cons_zero, List.set_cons_succ]
        refine rest_alone 7 rfl (by kernel_rfl) (by rfl) (fun K hK => ?_)
        go_wp2_with fail
        rw [run_method_direct (f := 219)]
        rotate_left
        · kernel_rfl
        go_wp2_with fail
        refine (c_poll_fields x1 _ hr0).mono ?_
        rintro e w1 ⟨a2, c2, rfl, ho2, hb2⟩
        go_wp2_with fail
        refine hK.out _ _ ?_
        try simp only [Act.put, List.setIfInBounds_toArray, List.set_cons_zero, List.set_cons_succ]
        clear hK K
        refine rest_alone 10 rfl (by kernel_rfl) (by rfl) (fun K hK => ?_)
        go_wp2_with fail
        refine (c_SameRow _ _ _ _ [x1] [x1] _ ho2.read ((hr1.below (Below.refl _ _).drew).below hb2)).mono ?_
        rintro e w2 ⟨rfl, hb3⟩
        go_wp2_with fail
        refine hK.out _ _ ?_
        try simp only [Act.put, List.setIfInBounds_toArray, List.set_cons_zero, List.set_cons_succ]
        clear hK K
        refine rest_take (v := ?_) 11 rfl (by kernel_rfl) (by kernel_rfl) (by kernel_rfl) (fun _ _ _ h => h) (by rfl) ?_ ?_
        rotate_left
        · intro w9; go_simp; try with_reducible rfl
        try simp only [Act.put, List.setIfInBounds_toArray, List.set_cons_zero, List.set_cons_succ]
        refine rest_take (v := ?_) 12 rfl (by kernel_rfl) (by kernel_rfl) (by kernel_rfl) (fun _ _ _ h => h) (by rfl) ?_ ?_
        rotate_left
        · intro w9; go_simp; try with_reducible rfl
        try simp only [Act.put, List.setIfInBounds_toArray, List.set_cons_zero, List.set_cons_succ]
        refine rest_done (by kernel_rfl) ?_
        go_wp2_with fail
        refine bodyPost_ret (v := .tuple #[.int .i64 x1, .bool true]) (by simp [results, Try.results103, go_sem, *]) rfl ⟨by simp [oneOf, oneIs, isB, hE], bl_step hb3 hb2.size (bl_step hb2 (Nat.le_refl _) (Below.refl _ _).drew)⟩
    · rw [oneIs_len h2, oneOf_f (oneIs_len h2)]
      clear hd
      by_cases h1 : l.length = 1
      · obtain ⟨x0, rfl⟩ : ∃ x0, l = [x0] := by match l, h1 with | [a], _ => exact ⟨a, rfl⟩
        clear h2 h1 hl0 hl1
        simp only [List.length_cons, List.length_nil, Nat.zero_add]
        go_enter Try.func103, Try.ntmps103
        go_wp2_with (go_at_call 90; refine (c_impl_KindOf _ _ [x0] _ h).mono ?_; rintro e w' ⟨rfl, rfl⟩)
        refine bodyPost_ret (v := .tuple #[.int .i64 0, .bool false]) (by simp [results, Try.results103, go_sem, *]) rfl ⟨rfl, Below.refl _ _⟩
      · have e2 : decide ((l.length : Int) - 1 < 1) = false := by simp; omega
        have e3 : decide (1 < (l.length : Int) - 1) = true := by simp; omega
        go_enter Try.func103, Try.ntmps103
        go_wp2_with (go_at_call 90; refine (c_impl_KindOf _ _ l _ h).mono ?_; rintro e w' ⟨rfl, rfl⟩)
        refine bodyPost_ret (v := .tuple #[.int .i64 0, .bool false]) (by simp [results, Try.results103, go_sem, *]) rfl ⟨rfl, Below.refl _ _⟩
  · have e1 := oneIs_ne (l := l) (k := 8) (lo := 2) (hi := 3) hk (by omega) (by omega) (by omega) (by omega)
    rw [e1, oneOf_f e1]
    go_enter Try.func103, Try.ntmps103
    go_wp2_with (go_at_call 90; refine (c_impl_KindOf _ _ l _ h).mono ?_; rintro e w' ⟨rfl, rfl⟩)
    refine bodyPost_ret (v := .tuple #[.int .i64 0, .bool false]) (by simp [results, Try.results103, go_sem, *]) rfl ⟨rfl, Below.refl _ _⟩
theorem c_impl_RowPoll (ao : Option Addr) (cap : Nat) (l : List Int) (w : World) (h : IntsR w ao l) (hcap : l.length ≤ cap) :
    Calls Try.prog 40 #[.slice ao l.length cap] w fun e w' => e = .returned (.tuple #[.int .i64 (oneOf l 8 2 3), .bool (oneIs l 8 2 3)]) ∧ Below w.heap.size w w' := by
  go_enter Try.func40, Try.ntmps40
  go_wp2_with fail
  refine (c_decoded_poll _ _ _ _ h hcap).mono ?_
  rintro e w1 ⟨rfl, hb⟩
  go_wp2_with fail
  refine bodyPost_ret (v := .tuple #[.int .i64 (oneOf l 8 2 3), .bool (oneIs l 8 2 3)]) (by simp [results, Try.results40, go_sem, *]) rfl ⟨rfl, hb⟩
theorem c_spec_RowPoll (ao : Option Addr) (cap : Nat) (l : List Int) (w : World) (h : IntsR w ao l) :
    Calls Try.prog 39 #[.slice ao l.length cap] w fun e w' => e = .returned (.tuple #[.int .i64 (oneOf l 8 2 3), .bool (oneIs l 8 2 3)]) ∧ w = w' := by
  go_enter Try.func39, Try.ntmps39
  go_wp2_with fail
  refine (c_spec_l11RowOne _ _ _ _ _ _ _ h).mono ?_
  rintro e w1 ⟨rfl, rfl⟩
  go_wp2_with fail
  refine bodyPost_ret (v := .tuple #[.int .i64 (oneOf l 8 2 3), .bool (oneIs l 8 2 3)]) (by simp [results, Try.results39, go_sem, *]) rfl ⟨rfl, rfl⟩
theorem c_law_RowPoll (ao : Option Addr) (cap : Nat) (l : List Int) (w : World) (h : IntsR w ao l) :
    Calls Try.prog 8 #[.slice ao l.length cap] w fun e w' => e = .returned (.bool true) ∧ Below w.heap.size w w' := by
  have hm := h.2.1
  by_cases hlen : 1048576 < l.length
  · go_enter Try.func8, Try.ntmps8
    go_wp2
    go_ret
    exact ⟨rfl, Below.refl _ _⟩
  · have hl2 : l.length ≤ 1048576 := by omega
    go_enter Try.func8, Try.ntmps8
    go_wp2_with fail
    refine (c_toInt64S _ _ _ _ h (by omega)).mono ?_
    rintro e w1 ⟨a1, c1, rfl, ho1, hb1⟩
    go_wp2_with fail
    refine (c_spec_RowPoll _ _ _ _ ho1.read).mono ?_
    rintro e w1 ⟨rfl, rfl⟩
    go_wp2_with fail
    refine (c_toInt64S _ _ _ _ (h.below hb1) (by omega)).mono ?_
    rintro e w2 ⟨a2, c2, rfl, ho2, hb2⟩
    go_wp2_with fail
    refine (c_impl_RowPoll _ _ _ _ ho2.read ho2.cap).mono ?_
    rintro e w3 ⟨rfl, hb3⟩
    go_wp2_with fail
    refine (c_toInt64S _ _ _ _ (((h.below hb1).below hb2).below hb3) (by omega)).mono ?_
    rintro e w4 ⟨a4, c4, rfl, ho4, hb4⟩
    go_wp2_with fail
    refine (c_eqInt64S _ _ _ _ _ _ _ ((ho2.read.below hb3).below hb4) ho4.read).mono ?_
    rintro e w5 ⟨rfl, hb5⟩
    have hs1 := hb1.size
    have hs2 := hb2.size
    have hs3 := hb3.size
    have hs4 := hb4.size
    go_wp2_with fail
    go_ret
    exact ⟨by simp, bl_step hb5 (by omega) (bl_step hb4 (by omega) (bl_step hb3 (by omega) (bl_step hb2 (by omega) hb1)))⟩

end Go.Proofs.Ytpfkfppooeikeaa
/- Walks of functions of the program, printed by a program of the prover. -/
namespace Go.Proofs.Ytpfkfppooeikeaa
open Go.RowKit
set_option maxHeartbeats 400000
set_option maxRecDepth 100000
theorem c_clos_trim (ao : Option Addr) (cap : Nat) (x : Int) (w : World) (h : IntsR w ao [x]) :
    Calls Try.prog 102 #[.slice ao 1 cap] w fun e w' => e = .returned (.int .i64 x) ∧ w = w' := by
  obtain ⟨b, off, rfl, hbl, hr0, hc⟩ := h.at (k := 0) (by simp)
  have hck := hc 0 (by simp)
  clear hc
  simp only [List.getElem_cons_zero, Nat.add_zero] at hck hr0
  go_enter Try.func102, Try.ntmps102
  go_wp2
  go_ret
  exact ⟨rfl, rfl⟩
theorem c_decoded_trim (ao : Option Addr) (cap : Nat) (l : List Int) (w : World) (h : IntsR w ao l) (hcap : l.length ≤ cap) :
    Calls Try.prog 101 #[.slice ao l.length cap, .int .i64 5, .int .i64 1, .int .i64 1, .func (Fn.func 102) #[] #[]] w fun e w' => e = .returned (.tuple #[.int .i64 (oneOf l 5 1 2000), .bool (oneIs l 5 1 2000)]) ∧ Below w.heap.size w w' := by
  have hm := h.2.1
  cases hk : (kindOf l != 5)
  · obtain ⟨hl0, hl1, hd⟩ := kindOf_pos hk (by omega)
    by_cases h2 : l.length = 2
    · obtain ⟨x0, x1, rfl⟩ : ∃ x0 x1, l = [x0, x1] := by
        match l, h2 with | [a, b], _ => exact ⟨a, b, rfl⟩
      obtain ⟨b, off, rfl, hbl, hr0, hc⟩ := h.at (k := 1) (by simp)
      have hr1 : IntsR w (some ⟨b, off + 1, none⟩) [x1] := h.tail
      obtain rfl : x0 = 5 := by simpa using hd
      clear hd hl0 hl1 h2 hc
      simp only [List.getElem_cons_succ, List.getElem_cons_zero, List.length_cons, List.length_nil, Nat.zero_add, Nat.reduceAdd] at hr0 hm h hcap ⊢
      have H := Lib.hid h
      have H1 := Lib.hid hr1
      cases hE : inB x1 1 2000
      · skip
        go_enter Try.func101, Try.ntmps101
        go_wp2_with (first | (go_at_call 90; refine (c_impl_KindOf _ _ [5, x1] _ h).mono ?_; rintro e w' ⟨rfl, rfl⟩) | (go_at_call 102; refine (c_clos_trim _ _ x1 _ hr1).mono ?_; rintro e w' ⟨rfl, rfl⟩))
        refine rest_begin (by kernel_rfl) ?_
        refine rest_take (v := ?_) 0 rfl (by kernel_rfl) (by kernel_rfl) (by kernel_rfl) (fun _ _ _ h => h) (by rfl) ?_ ?_
        rotate_left
        · intro w9; go_simp; try with_reducible rfl
        try simp only [Act.put, List.setIfInBounds_toArray, List.set_cons_zero, List.set_cons_succ]
        refine rest_take (v := ?_) 1 rfl (by kernel_rfl) (by kernel_rfl) (by kernel_rfl) (fun _ _ _ h => h) (by rfl) ?_ ?_
        rotate_left
        · intro w9; go_simp; try with_reducible rfl
        try simp only [Act.put, List.setIfInBounds_toArray, List.set_cons_zero, List.set_cons_succ]
        refine rest_alone 2 rfl (by kernel_rfl) (by rfl) (fun K hK => ?_)
        go_wp2_with fail
        rw [run_method_direct (f := 218)]
        rotate_left
        · kernel_rfl
        go_wp2_with fail
        refine (c_trim_valid x1 _).mono ?_
        rintro e w1 ⟨rfl, rfl⟩
        go_wp2_with fail
        refine hK.out _ _ ?_
        try simp only [Act.put, List.setIfInBounds_toArray, List.set_cons_zero, List.set_cons_succ]
        clear hK K
        refine rest_take (v := ?_) 3 rfl (by kernel_rfl) (by kernel_rfl) (by kernel_rfl) (fun _ _ _ h => h) (by rfl) ?_ ?_
        rotate_left
        · intro w9; go_simp; try with_reducible rfl
        try simp only [Act.put, List.setIfInBounds_toArray, List.set_cons_zero, List.set_cons_succ]
        refine rest_take (v := ?_) 4 rfl (by kernel_rfl) (by kernel_rfl) (by kernel_rfl) (fun _ _ _ h => h) (by rfl) ?_ ?_
        rotate_left
        · intro w9; go_simp; try with_reducible rfl
        try simp only [Act.put, List.setIfInBounds_toArray, List.set_cons_zero, List.set_cons_succ]
        refine rest_skip 5 rfl (by kernel_rfl) (by kernel_rfl) (by kernel_rfl) (fun _ _ _ h => h) (by rfl) ?_
        try simp only [Act.put, List.setIfInBounds_toArray, List.set_cons_zero, List.set_cons_succ]
        refine rest_skip 6 rfl (by kernel_rfl) (by kernel_rfl) (by kernel_rfl) (fun _ _ _ h => h) (by rfl) ?_
        try simp only [Act.put, List.setIfInBounds_toArray, List.set_cons_zero, List.set_cons_succ]
        refine rest_skip 8 rfl (by kernel_rfl) (by kernel_rfl) (by kernel_rfl) (fun _ _ _ h => h) (by rfl) ?_
        try simp only [Act.put, List.setIfInBounds_toArray, List.set_cons_zero, List.set_cons_succ]
        refine rest_skip 9 rfl (by kernel_rfl) (by kernel_rfl) (by kernel_rfl) (fun _ _ _ h => h) (by rfl) ?_
        try simp only [Act.put, List.setIfInBounds_toArray, List.set_cons_zero, List.set_cons_succ]
        refine rest_skip 7 rfl (by kernel_rfl) (by kernel_rfl) (by kernel_rfl) (fun _ _ _ h => h) (by rfl) ?_
        try simp only [Act.put, List.setIfInBounds_toArray, List.set_cons_zero, List.set_cons_succ]
        refine rest_skip 10 rfl (by kernel_rfl) (by kernel_rfl) (by kernel_rfl) (fun _ _ _ h => h) (by rfl) ?_
        try simp only [Act.put, List.setIfInBounds_toArray, List.set_cons_zero, List.set_cons_succ]
        refine rest_skip 11 rfl (by kernel_rfl) (by kernel_rfl) (by kernel_rfl) (fun _ _ _ h => h) (by rfl) ?_
        try simp only [Act.put, List.setIfInBounds_toArray, List.set_cons_zero, List.set_cons_succ]
        refine rest_take (v := ?_) 12 rfl (by kernel_rfl) (by kernel_rfl) (by kernel_rfl) (fun _ _ _ h => h) (by rfl) ?_ ?_
        rotate_left
        · intro w9; go_simp; try with_reducible rfl
        try simp only [Act.put, List.setIfInBounds_toArray, List.set_cons_zero, List.set_cons_succ]
        refine rest_done (by kernel_rfl) ?_
        go_wp2_with fail
        refine bodyPost_ret (v := .tuple #[.int .i64 0, .bool false]) (by simp [results, Try.results101, go_sem, *]) rfl ⟨by simp [oneOf, oneIs, isB, hE], (Below.refl _ _).drew⟩
      · skip
        go_enter Try.func101, Try.ntmps101
        go_wp2_with (first | (go_at_call 90; refine (c_impl_KindOf _ _ [5, x1] _ h).mono ?_; rintro e w' ⟨rfl, rfl⟩) | (go_at_call 102; refine (c_clos_trim _ _ x1 _ hr1).mono ?_; rintro e w' ⟨rfl, rfl⟩))
        refine rest_begin (by kernel_rfl) ?_
        refine rest_take (v := ?_) 0 rfl (by kernel_rfl) (by kernel_rfl) (by kernel_rfl) (fun _ _ _ h => h) (by rfl) ?_ ?_
        rotate_left
        · intro w9; go_simp; try with_reducible rfl
        try simp only [Act.put, List.setIfInBounds_toArray, List.set_cons_zero, List.set_cons_succ]
        refine rest_take (v := ?_) 1 rfl (by kernel_rfl) (by kernel_rfl) (by kernel_rfl) (fun _ _ _ h => h) (by rfl) ?_ ?_
        rotate_left
        · intro w9; go_simp; try with_reducible rfl
        try simp only [Act.put, List.setIfInBounds_toArray, List.set_cons_zero, List.set_cons_succ]
        refine rest_alone 2 rfl (by kernel_rfl) (by rfl) (fun K hK => ?_)
        go_wp2_with fail
        rw [run_method_direct (f := 218)]
        rotate_left
        · kernel_rfl
        go_wp2_with fail
        refine (c_trim_valid x1 _).mono ?_
        rintro e w1 ⟨rfl, rfl⟩
        go_wp2_with fail
        refine hK.out _ _ ?_
        try simp only [Act.put, List.setIfInBounds_toArray, List.set_cons_zero, List.set_cons_succ]
        clear hK K
        refine rest_take (v := ?_) 3 rfl (by kernel_rfl) (by kernel_rfl) (by kernel_rfl) (fun _ _ _ h => h) (by rfl) ?_ ?_
        rotate_left
        · intro w9; go_simp; try with_reducible rfl
        try simp only [Act.put, List.setIfInBounds_toArray, List.set_cons_zero, List.set_cons_succ]
        refine rest_take (v := ?_) 4 rfl (by kernel_rfl) (by kernel_rfl) (by kernel_rfl) (fun _ _ _ h => h) (by rfl) ?_ ?_
        rotate_left
        · intro w9; go_simp; try with_reducible rfl
        try simp only [Act.put, List.setIfInBounds_toArray, List.set_cons_zero, List.set_cons_succ]
        refine rest_take (v := ?_) 5 rfl (by kernel_rfl) (by kernel_rfl) (by kernel_rfl) (fun _ _ _ h => h) (by rfl) ?_ ?_
        rotate_left
        · intro w9; go_simp; try with_reducible rfl
        try simp only [Act.put, List.setIfInBounds_toArray, List.set_cons_zero, List.set_cons_succ]
        refine rest_take (v := ?_) 6 rfl (by kernel_rfl) (by kernel_rfl) (by kernel_rfl) (fun _ _ _ h => h) (by rfl) ?_ ?_
        rotate_left
        · intro w9; go_simp; try with_reducible rfl
        try simp only [Act.put, List.setIfInBounds_toArray, List.set_cons_zero, List.set_cons_succ]
        refine rest_take (v := ?_) 8 rfl (by kernel_rfl) (by kernel_rfl) (by kernel_rfl) (fun _ _ _ h => h) (by rfl) ?_ ?_
        rotate_left
        · intro w9; go_simp; try with_reducible rfl
        try simp only [Act.put, List.setIfInBounds_toArray, List.set_cons_zero, List.set_cons_succ]
        refine rest_take (v := ?_) 9 rfl (by kernel_rfl) (by kernel_rfl) (by kernel_rfl) (fun _ _ _ h => h) (by rfl) ?_ ?_
        rotate_left
        · intro w9; go_simp; try with_reducible rfl
        try simp only [Act.put, List.setIfInBounds_toArray, List.set_cons_zero, List.set_cons_succ]
        refine rest_alone 7 rfl (by kernel_rfl) (by rfl) (fun K hK => ?_)
        go_wp2_with fail
        rw [run_method_direct (f := 217)]
        rotate_left
        · kernel_rfl
        go_wp2_with fail
        refine (c_trim_fields x1 _ hr0).mono ?_
        rintro e w1 ⟨a2, c2, rfl, ho2, hb2⟩
        go_wp2_with fail
        refine hK.out _ _ ?_
        try simp only [Act.put, List.setIfInBounds_toArray, List.set_cons_zero, List.set_cons_succ]
        clear hK K
        refine rest_alone 10 rfl (by kernel_rfl) (by rfl) (fun K hK => ?_)
        go_wp2_with fail
        refine (c_SameRow _ _ _ _ [x1] [x1] _ ho2.read ((hr1.below (Below.refl _ _).drew).below hb2)).mono ?_
        rintro e w2 ⟨rfl, hb3⟩
        go_wp2_with fail
        refine hK.out _ _ ?_
        try simp only [Act.put, List.setIfInBounds_toArray, List.set_cons_zero, List.set_cons_succ]
        clear hK K
        refine rest_take (v := ?_) 11 rfl (by kernel_rfl) (by kernel_rfl) (by kernel_rfl) (fun _ _ _ h => h) (by rfl) ?_ ?_
        rotate_left
        · intro w9; go_simp; try with_reducible rfl
        try simp only [Act.put, List.setIfInBounds_toArray, List.set_cons_zero, List.set_cons_succ]
        refine rest_take (v := ?_) 12 rfl (by kernel_rfl) (by kernel_rfl) (by kernel_rfl) (fun _ _ _ h => h) (by rfl) ?_ ?_
        rotate_left
        · intro w9; go_simp; try with_reducible rfl
        try simp only [Act.put, List.setIfInBounds_toArray, List.set_cons_zero, List.set_cons_succ]
        refine rest_done (by kernel_rfl) ?_
        go_wp2_with fail
        refine bodyPost_ret (v := .tuple #[.int .i64 x1, .bool true]) (by simp [results, Try.results101, go_sem, *]) rfl ⟨by simp [oneOf, oneIs, isB, hE], bl_step hb3 hb2.size (bl_step hb2 (Nat.le_refl _) (Below.refl _ _).drew)⟩
    · rw [oneIs_len h2, oneOf_f (oneIs_len h2)]
      clear hd
      by_cases h1 : l.length = 1
      · obtain ⟨x0, rfl⟩ : ∃ x0, l = [x0] := by match l, h1 with | [a], _ => exact ⟨a, rfl⟩
        clear h2 h1 hl0 hl1
        simp only [List.length_cons, List.length_nil, Nat.zero_add]
        go_enter Try.func101, Try.ntmps101
        go_wp2_with (go_at_call 90; refine (c_impl_KindOf _ _ [x0] _ h).mono ?_; rintro e w' ⟨rfl, rfl⟩)
        refine bodyPost_ret (v := .tuple #[.int .i64 0, .bool false]) (by simp [results, Try.results101, go_sem, *]) rfl ⟨rfl, Below.refl _ _⟩
      · have e2 : decide ((l.length : Int) - 1 < 1) = false := by simp; omega
        have e3 : decide (1 < (l.length : Int) - 1) = true := by simp; omega
        go_enter Try.func101, Try.ntmps101
        go_wp2_with (go_at_call 90; refine (c_impl_KindOf _ _ l _ h).mono ?_; rintro e w' ⟨rfl, rfl⟩)
        refine bodyPost_ret (v := .tuple #[.int .i64 0, .bool false]) (by simp [results, Try.results101, go_sem, *]) rfl ⟨rfl, Below.refl _ _⟩
  · have e1 := oneIs_ne (l := l) (k := 5) (lo := 1) (hi := 2000) hk (by omega) (by omega) (by omega) (by omega)
    rw [e1, oneOf_f e1]
    go_enter Try.func101, Try.ntmps101
    go_wp2_with (go_at_call 90; refine (c_impl_KindOf _ _ l _ h).mono ?_; rintro e w' ⟨rfl, rfl⟩)
    refine bodyPost_ret (v := .tuple #[.int .i64 0, .bool false]) (by simp [results, Try.results101, go_sem, *]) rfl ⟨rfl, Below.refl _ _⟩
theorem c_impl_RowTrim (ao : Option Addr) (cap : Nat) (l : List Int) (w : World) (h : IntsR w ao l) (hcap : l.length ≤ cap) :
    Calls Try.prog 38 #[.slice ao l.length cap] w fun e w' => e = .returned (.tuple #[.int .i64 (oneOf l 5 1 2000), .bool (oneIs l 5 1 2000)]) ∧ Below w.heap.size w w' := by
  go_enter Try.func38, Try.ntmps38
  go_wp2_with fail
  refine (c_decoded_trim _ _ _ _ h hcap).mono ?_
  rintro e w1 ⟨rfl, hb⟩
  go_wp2_with fail
  refine bodyPost_ret (v := .tuple #[.int .i64 (oneOf l 5 1 2000), .bool (oneIs l 5 1 2000)]) (by simp [results, Try.results38, go_sem, *]) rfl ⟨rfl, hb⟩
theorem c_spec_RowTrim (ao : Option Addr) (cap : Nat) (l : List Int) (w : World) (h : IntsR w ao l) :
    Calls Try.prog 37 #[.slice ao l.length cap] w fun e w' => e = .returned (.tuple #[.int .i64 (oneOf l 5 1 2000), .bool (oneIs l 5 1 2000)]) ∧ w = w' := by
  go_enter Try.func37, Try.ntmps37
  go_wp2_with fail
  refine (c_spec_l11RowOne _ _ _ _ _ _ _ h).mono ?_
  rintro e w1 ⟨rfl, rfl⟩
  go_wp2_with fail
  refine bodyPost_ret (v := .tuple #[.int .i64 (oneOf l 5 1 2000), .bool (oneIs l 5 1 2000)]) (by simp [results, Try.results37, go_sem, *]) rfl ⟨rfl, rfl⟩
theorem c_law_RowTrim (ao : Option Addr) (cap : Nat) (l : List Int) (w : World) (h : IntsR w ao l) :
    Calls Try.prog 7 #[.slice ao l.length cap] w fun e w' => e = .returned (.bool true) ∧ Below w.heap.size w w' := by
  have hm := h.2.1
  by_cases hlen : 1048576 < l.length
  · go_enter Try.func7, Try.ntmps7
    go_wp2
    go_ret
    exact ⟨rfl, Below.refl _ _⟩
  · have hl2 : l.length ≤ 1048576 := by omega
    go_enter Try.func7, Try.ntmps7
    go_wp2_with fail
    refine (c_toInt64S _ _ _ _ h (by omega)).mono ?_
    rintro e w1 ⟨a1, c1, rfl, ho1, hb1⟩
    go_wp2_with fail
    refine (c_spec_RowTrim _ _ _ _ ho1.read).mono ?_
    rintro e w1 ⟨rfl, rfl⟩
    go_wp2_with fail
    refine (c_toInt64S _ _ _ _ (h.below hb1) (by omega)).mono ?_
    rintro e w2 ⟨a2, c2, rfl, ho2, hb2⟩
    go_wp2_with fail
    refine (c_impl_RowTrim _ _ _ _ ho2.read ho2.cap).mono ?_
    rintro e w3 ⟨rfl, hb3⟩
    go_wp2_with fail
    refine (c_toInt64S _ _ _ _ (((h.below hb1).below hb2).below hb3) (by omega)).mono ?_
    rintro e w4 ⟨a4, c4, rfl, ho4, hb4⟩
    go_wp2_with fail
    refine (c_eqInt64S _ _ _ _ _ _ _ ((ho2.read.below hb3).below hb4) ho4.read).mono ?_
    rintro e w5 ⟨rfl, hb5⟩
    have hs1 := hb1.size
    have hs2 := hb2.size
    have hs3 := hb3.size
    have hs4 := hb4.size
    go_wp2_with fail
    go_ret
    exact ⟨by simp, bl_step hb5 (by omega) (bl_step hb4 (by omega) (bl_step hb3 (by omega) (bl_step hb2 (by omega) hb1)))⟩

end Go.Proofs.Ytpfkfppooeikeaa
