/- Texts of the proof, merged: part 2. -/
import Derived.Test.YtpfkfppooeikeaaOkA
import Derived.Test.YtpfkfppooeikeaaEnt
import Derived.WalkKit
import Derived.WalkSpells
import Derived.Deep.QuietTactic
import Derived.BigQuiet
import Derived.Deep.Light
import Derived.Lib.Hide
import Derived.Deep.RegionHeld3
import Derived.Test.YtpfkfppooeikeaaRowOne
import Derived.Test.YtpfkfppooeikeaaJobsC
import Derived.IntWalk
/- Walks of functions of the program, printed by a program of the prover. -/
namespace Go.Proofs.Ytpfkfppooeikeaa
open Go.ChangeShapes Go.WideShapes Go.ChangeAt Go.RowKit Go.Deep
set_option maxHeartbeats 1600000
set_option maxRecDepth 100000
theorem c_spec_RowEntry_t (ao : Option Addr) (cap : Nat) (i t c s k a b x y : Int) (w : World) (hh : IntsR w ao [i, t, c, s, k, a, b, x, y]) (hcap : 9 ≤ cap) (hE : entryOk i t c s k a b x y = true) :
    Calls Try.prog 147 #[.slice ao 9 cap] w fun e w' => e = .returned (.tuple #[.agg #[.int .i64 i, .int .i64 t, .int .i64 c, .int .i64 s, .int .i64 k, .int .i64 a, .int .i64 b, .int .i64 x, .int .i64 y], .bool true]) ∧ Below w.heap.size w w' := by
  obtain ⟨b0, off, rfl, hbl, hr0, hc⟩ := hh.at (k := 0) (by simp)
  have k0 := hc 0 (by simp)
  have k1 := hc 1 (by simp)
  have k2 := hc 2 (by simp)
  have k3 := hc 3 (by simp)
  simp only [List.getElem_cons_zero, List.getElem_cons_succ, Nat.add_zero] at k0 k1 k2 k3
  have hh4 : IntsR w (some ⟨b0, off + 4, none⟩) [k, a, b, x, y] := hh.tail.tail.tail.tail
  clear hc hh hr0
  have hcap4 : (4 : Int) ≤ cap := by omega
  have hbl1 : b0 < w.heap.size + 1 := by omega
  have Hh4 := Lib.hid hh4
  clear hh4
  have hO : opOk k a b x y = true := by simp only [entryOk, Bool.and_eq_true] at hE; exact hE.2.2.2.2
  go_enter Try.func147, Try.ntmps147
  go_wp2_with (go_at_call 126; refine (c_spec_RowOp_t _ _ k a b x y _ (Hh4.out.below (by (repeat (first | with_reducible exact Below.refl _ _ | ((with_reducible refine bl_alloc ?_ ?_); (focus (first | (simp; done) | (simp; omega) | omega))) | ((with_reducible refine bl_set ?_ ?_); (focus (first | (simp; done) | (simp; omega) | omega))) | ((with_reducible refine bl_later ?_ ?_); (focus (first | (simp; done) | (simp; omega) | omega))) | with_reducible refine bl_drew ?_ | with_reducible refine bl_drewN ?_ | ((with_reducible refine bl_step (by assumption) ?_ ?_); (focus (first | (simp; done) | (simp; omega) | omega))))))) hO).mono ?_; rintro e w1 ⟨rfl, hb1⟩; have hz1 := hb1.size; (try simp only [World.size_alloc] at hz1); have Bz := (Bx.new w [.int .i64 0, .int .i64 0, .int .i64 0, .int .i64 0, .int .i64 0, .int .i64 0, .int .i64 0, .int .i64 0, .int .i64 0] 70).below hb1; have Fz := (Fx.new w [.int .i64 0, .int .i64 0, .int .i64 0, .int .i64 0, .int .i64 0, .int .i64 0, .int .i64 0, .int .i64 0, .int .i64 0] 70).below hb1; have hw1 := bl_step hb1 (by simp) ((Below.refl _ w).alloc (Nat.le_refl _) _); clear hb1)
  have j0 := (hw1.cell (p := ⟨b0, off, none⟩) hbl).trans k0
  have j1 := (hw1.cell (p := ⟨b0, off + 1, none⟩) hbl).trans k1
  have j2 := (hw1.cell (p := ⟨b0, off + 2, none⟩) hbl).trans k2
  have j3 := (hw1.cell (p := ⟨b0, off + 3, none⟩) hbl).trans k3
  have hbl1 : b0 < w1.heap.size := by omega
  have hbl2 : b0 < w1.heap.size + 1 := by omega
  clear k0 k1 k2 k3
  refine restS_begin (fun W => Below (w1.alloc (.cells #[.int .i64 k, .int .i64 a, .int .i64 b, .int .i64 x, .int .i64 y] 68)).heap.size (w1.alloc (.cells #[.int .i64 k, .int .i64 a, .int .i64 b, .int .i64 x, .int .i64 y] 68)) W) (by kernel_rfl) (by (repeat (first | with_reducible exact Below.refl _ _ | ((with_reducible refine bl_alloc ?_ ?_); (focus (first | (simp; done) | (simp; omega) | omega))) | ((with_reducible refine bl_set ?_ ?_); (focus (first | (simp; done) | (simp; omega) | omega))) | ((with_reducible refine bl_later ?_ ?_); (focus (first | (simp; done) | (simp; omega) | omega))) | with_reducible refine bl_drew ?_ | with_reducible refine bl_drewN ?_ | ((with_reducible refine bl_step (by assumption) ?_ ?_); (focus (first | (simp; done) | (simp; omega) | omega)))))) ?_
  refine restS_take (v := ?_) 0 rfl (by kernel_rfl) (by kernel_rfl) (by kernel_rfl) (fun _ _ _ h => h) (by rfl) ?_ ?_
  rotate_left
  · intro w9 h9; try dsimp only at h9
    go_split_ands
    go_simp; try with_reducible rfl
  try simp only [Act.put, List.setIfInBounds_toArray, List.set_cons_zero, List.set_cons_succ]
  refine restS_take (v := ?_) 1 rfl (by kernel_rfl) (by kernel_rfl) (by kernel_rfl) (fun _ _ _ h => h) (by rfl) ?_ ?_
  rotate_left
  · intro w9 h9; try dsimp only at h9
    go_split_ands
    go_simp; try with_reducible rfl
  try simp only [Act.put, List.setIfInBounds_toArray, List.set_cons_zero, List.set_cons_succ]
  refine restS_take (v := ?_) 2 rfl (by kernel_rfl) (by kernel_rfl) (by kernel_rfl) (fun _ _ _ h => h) (by rfl) ?_ ?_
  rotate_left
  · intro w9 h9; try dsimp only at h9
    obtain ⟨x9, rfl⟩ := later_of h9
    go_simp; try with_reducible rfl
  try simp only [Act.put, List.setIfInBounds_toArray, List.set_cons_zero, List.set_cons_succ]
  refine restS_take (v := ?_) 3 rfl (by kernel_rfl) (by kernel_rfl) (by kernel_rfl) (fun _ _ _ h => h) (by rfl) ?_ ?_
  rotate_left
  · intro w9 h9; try dsimp only at h9
    go_split_ands
    go_simp; try with_reducible rfl
  try simp only [Act.put, List.setIfInBounds_toArray, List.set_cons_zero, List.set_cons_succ]
  refine restS_take (v := ?_) 4 rfl (by kernel_rfl) (by kernel_rfl) (by kernel_rfl) (fun _ _ _ h => h) (by rfl) ?_ ?_
  rotate_left
  · intro w9 h9; try dsimp only at h9
    go_split_ands
    go_simp; try with_reducible rfl
  try simp only [Act.put, List.setIfInBounds_toArray, List.set_cons_zero, List.set_cons_succ]
  refine restS_take (v := ?_) 5 rfl (by kernel_rfl) (by kernel_rfl) (by kernel_rfl) (fun _ _ _ h => h) (by rfl) ?_ ?_
  rotate_left
  · intro w9 h9; try dsimp only at h9
    obtain ⟨x9, rfl⟩ := later_of h9
    go_simp; try with_reducible rfl
  try simp only [Act.put, List.setIfInBounds_toArray, List.set_cons_zero, List.set_cons_succ]
  refine restS_take (v := ?_) 6 rfl (by kernel_rfl) (by kernel_rfl) (by kernel_rfl) (fun _ _ _ h => h) (by rfl) ?_ ?_
  rotate_left
  · intro w9 h9; try dsimp only at h9
    go_split_ands
    go_simp; try with_reducible rfl
  try simp only [Act.put, List.setIfInBounds_toArray, List.set_cons_zero, List.set_cons_succ]
  refine restS_take (v := ?_) 7 rfl (by kernel_rfl) (by kernel_rfl) (by kernel_rfl) (fun _ _ _ h => h) (by rfl) ?_ ?_
  rotate_left
  · intro w9 h9; try dsimp only at h9
    go_split_ands
    go_simp; try with_reducible rfl
  try simp only [Act.put, List.setIfInBounds_toArray, List.set_cons_zero, List.set_cons_succ]
  refine restS_take (v := ?_) 8 rfl (by kernel_rfl) (by kernel_rfl) (by kernel_rfl) (fun _ _ _ h => h) (by rfl) ?_ ?_
  rotate_left
  · intro w9 h9; try dsimp only at h9
    obtain ⟨x9, rfl⟩ := later_of h9
    go_simp; try with_reducible rfl
  try simp only [Act.put, List.setIfInBounds_toArray, List.set_cons_zero, List.set_cons_succ]
  refine restS_take (v := ?_) 9 rfl (by kernel_rfl) (by kernel_rfl) (by kernel_rfl) (fun _ _ _ h => h) (by rfl) ?_ ?_
  rotate_left
  · intro w9 h9; try dsimp only at h9
    go_split_ands
    go_simp; try with_reducible rfl
  try simp only [Act.put, List.setIfInBounds_toArray, List.set_cons_zero, List.set_cons_succ]
  refine restS_take (v := ?_) 10 rfl (by kernel_rfl) (by kernel_rfl) (by kernel_rfl) (fun _ _ _ h => h) (by rfl) ?_ ?_
  rotate_left
  · intro w9 h9; try dsimp only at h9
    go_split_ands
    go_simp; try with_reducible rfl
  try simp only [Act.put, List.setIfInBounds_toArray, List.set_cons_zero, List.set_cons_succ]
  refine restS_take (v := ?_) 11 rfl (by kernel_rfl) (by kernel_rfl) (by kernel_rfl) (fun _ _ _ h => h) (by rfl) ?_ ?_
  rotate_left
  · intro w9 h9; try dsimp only at h9
    obtain ⟨x9, rfl⟩ := later_of h9
    go_simp; try with_reducible rfl
  try simp only [Act.put, List.setIfInBounds_toArray, List.set_cons_zero, List.set_cons_succ]
  refine restS_take (v := ?_) 12 rfl (by kernel_rfl) (by kernel_rfl) (by kernel_rfl) (fun _ _ _ h => h) (by rfl) ?_ ?_
  rotate_left
  · intro w9 h9; try dsimp only at h9
    obtain ⟨x9, rfl⟩ := later_of h9
    go_simp; try with_reducible rfl
  try simp only [Act.put, List.setIfInBounds_toArray, List.set_cons_zero, List.set_cons_succ]
  refine restS_take (v := ?_) 13 rfl (by kernel_rfl) (by kernel_rfl) (by kernel_rfl) (fun _ _ _ h => h) (by rfl) ?_ ?_
  rotate_left
  · intro w9 h9; try dsimp only at h9
    go_split_ands
    go_simp; try with_reducible rfl
  try simp only [Act.put, List.setIfInBounds_toArray, List.set_cons_zero, List.set_cons_succ]
  refine restS_alone 14 rfl (by kernel_rfl) (by rfl) (fun hS K hK => ?_)
  go_wp2_with fail
  refine hK.out _ _ (by (repeat (first | with_reducible exact Below.refl _ _ | ((with_reducible refine bl_alloc ?_ ?_); (focus (first | (simp; done) | (simp; omega) | omega))) | ((with_reducible refine bl_set ?_ ?_); (focus (first | (simp; done) | (simp; omega) | omega))) | ((with_reducible refine bl_later ?_ ?_); (focus (first | (simp; done) | (simp; omega) | omega))) | with_reducible refine bl_drew ?_ | with_reducible refine bl_drewN ?_ | ((with_reducible refine bl_step (by assumption) ?_ ?_); (focus (first | (simp; done) | (simp; omega) | omega)))))) ?_
  try simp only [Act.put, List.setIfInBounds_toArray, List.set_cons_zero, List.set_cons_succ]
  clear hK K hS
  refine restS_alone 15 rfl (by kernel_rfl) (by rfl) (fun hS K hK => ?_)
  go_wp2_with fail
  refine hK.out _ _ (by (repeat (first | with_reducible exact Below.refl _ _ | ((with_reducible refine bl_alloc ?_ ?_); (focus (first | (simp; done) | (simp; omega) | omega))) | ((with_reducible refine bl_set ?_ ?_); (focus (first | (simp; done) | (simp; omega) | omega))) | ((with_reducible refine bl_later ?_ ?_); (focus (first | (simp; done) | (simp; omega) | omega))) | with_reducible refine bl_drew ?_ | with_reducible refine bl_drewN ?_ | ((with_reducible refine bl_step (by assumption) ?_ ?_); (focus (first | (simp; done) | (simp; omega) | omega)))))) ?_
  try simp only [Act.put, List.setIfInBounds_toArray, List.set_cons_zero, List.set_cons_succ]
  clear hK K hS
  refine restS_done (by kernel_rfl) (fun hS => ?_)
  clear hS
  have Bz2 := ((Bz.alloc (.cells #[.int .i64 k, .int .i64 a, .int .i64 b, .int .i64 x, .int .i64 y] 68)).alloc (.cells #[.int .i64 i, .int .i64 t, .int .i64 c, .int .i64 s, .int .i64 k, .int .i64 a, .int .i64 b, .int .i64 x, .int .i64 y] 70)).drew
  have Fz2 := ((Fz.alloc (.cells #[.int .i64 k, .int .i64 a, .int .i64 b, .int .i64 x, .int .i64 y] 68)).alloc (.cells #[.int .i64 i, .int .i64 t, .int .i64 c, .int .i64 s, .int .i64 k, .int .i64 a, .int .i64 b, .int .i64 x, .int .i64 y] 70)).drew
  have By2 := (Bx.new (w1.alloc (.cells #[.int .i64 k, .int .i64 a, .int .i64 b, .int .i64 x, .int .i64 y] 68)) [.int .i64 i, .int .i64 t, .int .i64 c, .int .i64 s, .int .i64 k, .int .i64 a, .int .i64 b, .int .i64 x, .int .i64 y] 70).drew
  rw [World.size_alloc] at By2
  have q0 := Bz2.2
  have q1 := Fz2.2
  have q2 := By2.2
  have hw2 : Below w.heap.size w ((w1.alloc (.cells #[.int .i64 k, .int .i64 a, .int .i64 b, .int .i64 x, .int .i64 y] 68)).alloc (.cells #[.int .i64 i, .int .i64 t, .int .i64 c, .int .i64 s, .int .i64 k, .int .i64 a, .int .i64 b, .int .i64 x, .int .i64 y] 70)).drew := ((hw1.alloc hw1.size _).alloc (by have := hw1.size; simp; omega) _).drew
  go_wp2_with (go_at_call 154; refine (c_spec_EntryOk i t c s k a b x y _).mono ?_; rintro e w2 ⟨rfl, hb2⟩; clear q0 q1 q2; have q0 := (Bz2.below hb2).2; have q1 := (Fz2.below hb2).2; have q2 := (By2.below hb2).2; have hw3 := bl_step hb2 hw2.size hw2; have hz2 := hb2.size; simp only [World.size_drew, World.size_alloc] at hz2)
  refine bodyPost_ret (v := .tuple #[.agg #[.int .i64 i, .int .i64 t, .int .i64 c, .int .i64 s, .int .i64 k, .int .i64 a, .int .i64 b, .int .i64 x, .int .i64 y], .bool true]) (by simp [results, Try.results147, go_sem, *]) rfl ⟨rfl, ?_⟩
  (repeat (first | with_reducible exact Below.refl _ _ | ((with_reducible refine bl_alloc ?_ ?_); (focus (first | (simp; done) | (simp; omega) | omega))) | ((with_reducible refine bl_set ?_ ?_); (focus (first | (simp; done) | (simp; omega) | omega))) | ((with_reducible refine bl_later ?_ ?_); (focus (first | (simp; done) | (simp; omega) | omega))) | with_reducible refine bl_drew ?_ | with_reducible refine bl_drewN ?_ | ((with_reducible refine bl_step (by assumption) ?_ ?_); (focus (first | (simp; done) | (simp; omega) | omega)))))
theorem c_spec_RowEntry_f (ao : Option Addr) (cap : Nat) (i t c s k a b x y : Int) (w : World) (hh : IntsR w ao [i, t, c, s, k, a, b, x, y]) (hcap : 9 ≤ cap) (hE : entryOk i t c s k a b x y = false) :
    Calls Try.prog 147 #[.slice ao 9 cap] w fun e w' => e = .returned (.tuple #[.agg #[.int .i64 0, .int .i64 0, .int .i64 0, .int .i64 0, .int .i64 0, .int .i64 0, .int .i64 0, .int .i64 0, .int .i64 0], .bool false]) ∧ Below w.heap.size w w' := by
  obtain ⟨b0, off, rfl, hbl, hr0, hc⟩ := hh.at (k := 0) (by simp)
  have k0 := hc 0 (by simp)
  have k1 := hc 1 (by simp)
  have k2 := hc 2 (by simp)
  have k3 := hc 3 (by simp)
  simp only [List.getElem_cons_zero, List.getElem_cons_succ, Nat.add_zero] at k0 k1 k2 k3
  have hh4 : IntsR w (some ⟨b0, off + 4, none⟩) [k, a, b, x, y] := hh.tail.tail.tail.tail
  clear hc hh hr0
  have hcap4 : (4 : Int) ≤ cap := by omega
  have hbl1 : b0 < w.heap.size + 1 := by omega
  have Hh4 := Lib.hid hh4
  clear hh4
  cases hO : opOk k a b x y
  · skip
    go_enter Try.func147, Try.ntmps147
    go_wp2_with (go_at_call 126; refine (c_spec_RowOp_f _ _ k a b x y _ (Hh4.out.below (by (repeat (first | with_reducible exact Below.refl _ _ | ((with_reducible refine bl_alloc ?_ ?_); (focus (first | (simp; done) | (simp; omega) | omega))) | ((with_reducible refine bl_set ?_ ?_); (focus (first | (simp; done) | (simp; omega) | omega))) | ((with_reducible refine bl_later ?_ ?_); (focus (first | (simp; done) | (simp; omega) | omega))) | with_reducible refine bl_drew ?_ | with_reducible refine bl_drewN ?_ | ((with_reducible refine bl_step (by assumption) ?_ ?_); (focus (first | (simp; done) | (simp; omega) | omega))))))) hO).mono ?_; rintro e w1 ⟨rfl, hb1⟩; have hz1 := hb1.size; (try simp only [World.size_alloc] at hz1); have Bz := (Bx.new w [.int .i64 0, .int .i64 0, .int .i64 0, .int .i64 0, .int .i64 0, .int .i64 0, .int .i64 0, .int .i64 0, .int .i64 0] 70).below hb1; have Fz := (Fx.new w [.int .i64 0, .int .i64 0, .int .i64 0, .int .i64 0, .int .i64 0, .int .i64 0, .int .i64 0, .int .i64 0, .int .i64 0] 70).below hb1; have hw1 := bl_step hb1 (by simp) ((Below.refl _ w).alloc (Nat.le_refl _) _); clear hb1)
    have j0 := (hw1.cell (p := ⟨b0, off, none⟩) hbl).trans k0
    have j1 := (hw1.cell (p := ⟨b0, off + 1, none⟩) hbl).trans k1
    have j2 := (hw1.cell (p := ⟨b0, off + 2, none⟩) hbl).trans k2
    have j3 := (hw1.cell (p := ⟨b0, off + 3, none⟩) hbl).trans k3
    have hbl1 : b0 < w1.heap.size := by omega
    have hbl2 : b0 < w1.heap.size + 1 := by omega
    clear k0 k1 k2 k3
    refine restS_begin (fun W => Below (w1.alloc (.cells #[.int .i64 0, .int .i64 0, .int .i64 0, .int .i64 0, .int .i64 0] 68)).heap.size (w1.alloc (.cells #[.int .i64 0, .int .i64 0, .int .i64 0, .int .i64 0, .int .i64 0] 68)) W) (by kernel_rfl) (by (repeat (first | with_reducible exact Below.refl _ _ | ((with_reducible refine bl_alloc ?_ ?_); (focus (first | (simp; done) | (simp; omega) | omega))) | ((with_reducible refine bl_set ?_ ?_); (focus (first | (simp; done) | (simp; omega) | omega))) | ((with_reducible refine bl_later ?_ ?_); (focus (first | (simp; done) | (simp; omega) | omega))) | with_reducible refine bl_drew ?_ | with_reducible refine bl_drewN ?_ | ((with_reducible refine bl_step (by assumption) ?_ ?_); (focus (first | (simp; done) | (simp; omega) | omega)))))) ?_
    refine restS_take (v := ?_) 0 rfl (by kernel_rfl) (by kernel_rfl) (by kernel_rfl) (fun _ _ _ h => h) (by rfl) ?_ ?_
    rotate_left
    · intro w9 h9; try dsimp only at h9
      go_split_ands
      go_simp; try with_reducible rfl
    try simp only [Act.put, List.setIfInBounds_toArray, List.set_cons_zero, List.set_cons_succ]
    refine restS_take (v := ?_) 1 rfl (by kernel_rfl) (by kernel_rfl) (by kernel_rfl) (fun _ _ _ h => h) (by rfl) ?_ ?_
    rotate_left
    · intro w9 h9; try dsimp only at h9
      go_split_ands
      go_simp; try with_reducible rfl
    try simp only [Act.put, List.setIfInBounds_toArray, List.set_cons_zero, List.set_cons_succ]
    refine restS_take (v := ?_) 2 rfl (by kernel_rfl) (by kernel_rfl) (by kernel_rfl) (fun _ _ _ h => h) (by rfl) ?_ ?_
    rotate_left
    · intro w9 h9; try dsimp only at h9
      obtain ⟨x9, rfl⟩ := later_of h9
      go_simp; try with_reducible rfl
    try simp only [Act.put, List.setIfInBounds_toArray, List.set_cons_zero, List.set_cons_succ]
    refine restS_take (v := ?_) 3 rfl (by kernel_rfl) (by kernel_rfl) (by kernel_rfl) (fun _ _ _ h => h) (by rfl) ?_ ?_
    rotate_left
    · intro w9 h9; try dsimp only at h9
      go_split_ands
      go_simp; try with_reducible rfl
    try simp only [Act.put, List.setIfInBounds_toArray, List.set_cons_zero, List.set_cons_succ]
    refine restS_take (v := ?_) 4 rfl (by kernel_rfl) (by kernel_rfl) (by kernel_rfl) (fun _ _ _ h => h) (by rfl) ?_ ?_
    rotate_left
    · intro w9 h9; try dsimp only at h9
      go_split_ands
      go_simp; try with_reducible rfl
    try simp only [Act.put, List.setIfInBounds_toArray, List.set_cons_zero, List.set_cons_succ]
    refine restS_take (v := ?_) 5 rfl (by kernel_rfl) (by kernel_rfl) (by kernel_rfl) (fun _ _ _ h => h) (by rfl) ?_ ?_
    rotate_left
    · intro w9 h9; try dsimp only at h9
      obtain ⟨x9, rfl⟩ := later_of h9
      go_simp; try with_reducible rfl
    try simp only [Act.put, List.setIfInBounds_toArray, List.set_cons_zero, List.set_cons_succ]
    refine restS_take (v := ?_) 6 rfl (by kernel_rfl) (by kernel_rfl) (by kernel_rfl) (fun _ _ _ h => h) (by rfl) ?_ ?_
    rotate_left
    · intro w9 h9; try dsimp only at h9
      go_split_ands
      go_simp; try with_reducible rfl
    try simp only [Act.put, List.setIfInBounds_toArray, List.set_cons_zero, List.set_cons_succ]
    refine restS_take (v := ?_) 7 rfl (by kernel_rfl) (by kernel_rfl) (by kernel_rfl) (fun _ _ _ h => h) (by rfl) ?_ ?_
    rotate_left
    · intro w9 h9; try dsimp only at h9
      go_split_ands
      go_simp; try with_reducible rfl
    try simp only [Act.put, List.setIfInBounds_toArray, List.set_cons_zero, List.set_cons_succ]
    refine restS_take (v := ?_) 8 rfl (by kernel_rfl) (by kernel_rfl) (by kernel_rfl) (fun _ _ _ h => h) (by rfl) ?_ ?_
    rotate_left
    · intro w9 h9; try dsimp only at h9
      obtain ⟨x9, rfl⟩ := later_of h9
      go_simp; try with_reducible rfl
    try simp only [Act.put, List.setIfInBounds_toArray, List.set_cons_zero, List.set_cons_succ]
    refine restS_take (v := ?_) 9 rfl (by kernel_rfl) (by kernel_rfl) (by kernel_rfl) (fun _ _ _ h => h) (by rfl) ?_ ?_
    rotate_left
    · intro w9 h9; try dsimp only at h9
      go_split_ands
      go_simp; try with_reducible rfl
    try simp only [Act.put, List.setIfInBounds_toArray, List.set_cons_zero, List.set_cons_succ]
    refine restS_take (v := ?_) 10 rfl (by kernel_rfl) (by kernel_rfl) (by kernel_rfl) (fun _ _ _ h => h) (by rfl) ?_ ?_
    rotate_left
    · intro w9 h9; try dsimp only at h9
      go_split_ands
      go_simp; try with_reducible rfl
    try simp only [Act.put, List.setIfInBounds_toArray, List.set_cons_zero, List.set_cons_succ]
    refine restS_take (v := ?_) 11 rfl (by kernel_rfl) (by kernel_rfl) (by kernel_rfl) (fun _ _ _ h => h) (by rfl) ?_ ?_
    rotate_left
    · intro w9 h9; try dsimp only at h9
      obtain ⟨x9, rfl⟩ := later_of h9
      go_simp; try with_reducible rfl
    try simp only [Act.put, List.setIfInBounds_toArray, List.set_cons_zero, List.set_cons_succ]
    refine restS_take (v := ?_) 12 rfl (by kernel_rfl) (by kernel_rfl) (by kernel_rfl) (fun _ _ _ h => h) (by rfl) ?_ ?_
    rotate_left
    · intro w9 h9; try dsimp only at h9
      obtain ⟨x9, rfl⟩ := later_of h9
      go_simp; try with_reducible rfl
    try simp only [Act.put, List.setIfInBounds_toArray, List.set_cons_zero, List.set_cons_succ]
    refine restS_take (v := ?_) 13 rfl (by kernel_rfl) (by kernel_rfl) (by kernel_rfl) (fun _ _ _ h => h) (by rfl) ?_ ?_
    rotate_left
    · intro w9 h9; try dsimp only at h9
      go_split_ands
      go_simp; try with_reducible rfl
    try simp only [Act.put, List.setIfInBounds_toArray, List.set_cons_zero, List.set_cons_succ]
    refine restS_alone 14 rfl (by kernel_rfl) (by rfl) (fun hS K hK => ?_)
    go_wp2_with fail
    refine hK.out _ _ (by (repeat (first | with_reducible exact Below.refl _ _ | ((with_reducible refine bl_alloc ?_ ?_); (focus (first | (simp; done) | (simp; omega) | omega))) | ((with_reducible refine bl_set ?_ ?_); (focus (first | (simp; done) | (simp; omega) | omega))) | ((with_reducible refine bl_later ?_ ?_); (focus (first | (simp; done) | (simp; omega) | omega))) | with_reducible refine bl_drew ?_ | with_reducible refine bl_drewN ?_ | ((with_reducible refine bl_step (by assumption) ?_ ?_); (focus (first | (simp; done) | (simp; omega) | omega)))))) ?_
    try simp only [Act.put, List.setIfInBounds_toArray, List.set_cons_zero, List.set_cons_succ]
    clear hK K hS
    refine restS_alone 15 rfl (by kernel_rfl) (by rfl) (fun hS K hK => ?_)
    go_wp2_with fail
    refine hK.out _ _ (by (repeat (first | with_reducible exact Below.refl _ _ | ((with_reducible refine bl_alloc ?_ ?_); (focus (first | (simp; done) | (simp; omega) | omega))) | ((with_reducible refine bl_set ?_ ?_); (focus (first | (simp; done) | (simp; omega) | omega))) | ((with_reducible refine bl_later ?_ ?_); (focus (first | (simp; done) | (simp; omega) | omega))) | with_reducible refine bl_drew ?_ | with_reducible refine bl_drewN ?_ | ((with_reducible refine bl_step (by assumption) ?_ ?_); (focus (first | (simp; done) | (simp; omega) | omega)))))) ?_
    try simp only [Act.put, List.setIfInBounds_toArray, List.set_cons_zero, List.set_cons_succ]
    clear hK K hS
    refine restS_done (by kernel_rfl) (fun hS => ?_)
    clear hS
    have Bz2 := ((Bz.alloc (.cells #[.int .i64 0, .int .i64 0, .int .i64 0, .int .i64 0, .int .i64 0] 68)).alloc (.cells #[.int .i64 i, .int .i64 t, .int .i64 c, .int .i64 s, .int .i64 0, .int .i64 0, .int .i64 0, .int .i64 0, .int .i64 0] 70)).drew
    have Fz2 := ((Fz.alloc (.cells #[.int .i64 0, .int .i64 0, .int .i64 0, .int .i64 0, .int .i64 0] 68)).alloc (.cells #[.int .i64 i, .int .i64 t, .int .i64 c, .int .i64 s, .int .i64 0, .int .i64 0, .int .i64 0, .int .i64 0, .int .i64 0] 70)).drew
    have By2 := (Bx.new (w1.alloc (.cells #[.int .i64 0, .int .i64 0, .int .i64 0, .int .i64 0, .int .i64 0] 68)) [.int .i64 i, .int .i64 t, .int .i64 c, .int .i64 s, .int .i64 0, .int .i64 0, .int .i64 0, .int .i64 0, .int .i64 0] 70).drew
    rw [World.size_alloc] at By2
    have q0 := Bz2.2
    have q1 := Fz2.2
    have q2 := By2.2
    have hw2 : Below w.heap.size w ((w1.alloc (.cells #[.int .i64 0, .int .i64 0, .int .i64 0, .int .i64 0, .int .i64 0] 68)).alloc (.cells #[.int .i64 i, .int .i64 t, .int .i64 c, .int .i64 s, .int .i64 0, .int .i64 0, .int .i64 0, .int .i64 0, .int .i64 0] 70)).drew := ((hw1.alloc hw1.size _).alloc (by have := hw1.size; simp; omega) _).drew
    clear q0 q1 q2 Bz2 Fz2 By2 hw2
    have q0 := Bz.2
    have q1 := Fz.2
    have hs1 : w.heap.size < w1.heap.size := by omega
    have hs2 : w.heap.size < w1.heap.size + 1 := by omega
    go_wp2_with fail
    refine bodyPost_ret (v := .tuple #[.agg #[.int .i64 0, .int .i64 0, .int .i64 0, .int .i64 0, .int .i64 0, .int .i64 0, .int .i64 0, .int .i64 0, .int .i64 0], .bool false]) (by simp [results, Try.results147, go_sem, *]) rfl ⟨rfl, ?_⟩
    (repeat (first | with_reducible exact Below.refl _ _ | ((with_reducible refine bl_alloc ?_ ?_); (focus (first | (simp; done) | (simp; omega) | omega))) | ((with_reducible refine bl_set ?_ ?_); (focus (first | (simp; done) | (simp; omega) | omega))) | ((with_reducible refine bl_later ?_ ?_); (focus (first | (simp; done) | (simp; omega) | omega))) | with_reducible refine bl_drew ?_ | with_reducible refine bl_drewN ?_ | ((with_reducible refine bl_step (by assumption) ?_ ?_); (focus (first | (simp; done) | (simp; omega) | omega)))))
  · skip
    go_enter Try.func147, Try.ntmps147
    go_wp2_with (go_at_call 126; refine (c_spec_RowOp_t _ _ k a b x y _ (Hh4.out.below (by (repeat (first | with_reducible exact Below.refl _ _ | ((with_reducible refine bl_alloc ?_ ?_); (focus (first | (simp; done) | (simp; omega) | omega))) | ((with_reducible refine bl_set ?_ ?_); (focus (first | (simp; done) | (simp; omega) | omega))) | ((with_reducible refine bl_later ?_ ?_); (focus (first | (simp; done) | (simp; omega) | omega))) | with_reducible refine bl_drew ?_ | with_reducible refine bl_drewN ?_ | ((with_reducible refine bl_step (by assumption) ?_ ?_); (focus (first | (simp; done) | (simp; omega) | omega))))))) hO).mono ?_; rintro e w1 ⟨rfl, hb1⟩; have hz1 := hb1.size; (try simp only [World.size_alloc] at hz1); have Bz := (Bx.new w [.int .i64 0, .int .i64 0, .int .i64 0, .int .i64 0, .int .i64 0, .int .i64 0, .int .i64 0, .int .i64 0, .int .i64 0] 70).below hb1; have Fz := (Fx.new w [.int .i64 0, .int .i64 0, .int .i64 0, .int .i64 0, .int .i64 0, .int .i64 0, .int .i64 0, .int .i64 0, .int .i64 0] 70).below hb1; have hw1 := bl_step hb1 (by simp) ((Below.refl _ w).alloc (Nat.le_refl _) _); clear hb1)
    have j0 := (hw1.cell (p := ⟨b0, off, none⟩) hbl).trans k0
    have j1 := (hw1.cell (p := ⟨b0, off + 1, none⟩) hbl).trans k1
    have j2 := (hw1.cell (p := ⟨b0, off + 2, none⟩) hbl).trans k2
    have j3 := (hw1.cell (p := ⟨b0, off + 3, none⟩) hbl).trans k3
    have hbl1 : b0 < w1.heap.size := by omega
    have hbl2 : b0 < w1.heap.size + 1 := by omega
    clear k0 k1 k2 k3
    refine restS_begin (fun W => Below (w1.alloc (.cells #[.int .i64 k, .int .i64 a, .int .i64 b, .int .i64 x, .int .i64 y] 68)).heap.size (w1.alloc (.cells #[.int .i64 k, .int .i64 a, .int .i64 b, .int .i64 x, .int .i64 y] 68)) W) (by kernel_rfl) (by (repeat (first | with_reducible exact Below.refl _ _ | ((with_reducible refine bl_alloc ?_ ?_); (focus (first | (simp; done) | (simp; omega) | omega))) | ((with_reducible refine bl_set ?_ ?_); (focus (first | (simp; done) | (simp; omega) | omega))) | ((with_reducible refine bl_later ?_ ?_); (focus (first | (simp; done) | (simp; omega) | omega))) | with_reducible refine bl_drew ?_ | with_reducible refine bl_drewN ?_ | ((with_reducible refine bl_step (by assumption) ?_ ?_); (focus (first | (simp; done) | (simp; omega) | omega)))))) ?_
    refine restS_take (v := ?_) 0 rfl (by kernel_rfl) (by kernel_rfl) (by kernel_rfl) (fun _ _ _ h => h) (by rfl) ?_ ?_
    rotate_left
    · intro w9 h9; try dsimp only at h9
      go_split_ands
      go_simp; try with_reducible rfl
    try simp only [Act.put, List.setIfInBounds_toArray, List.set_cons_zero, List.set_cons_succ]
    refine restS_take (v := ?_) 1 rfl (by kernel_rfl) (by kernel_rfl) (by kernel_rfl) (fun _ _ _ h => h) (by rfl) ?_ ?_
    rotate_left
    · intro w9 h9; try dsimp only at h9
      go_split_ands
      go_simp; try with_reducible rfl
    try simp only [Act.put, List.setIfInBounds_toArray, List.set_cons_zero, List.set_cons_succ]
    refine restS_take (v := ?_) 2 rfl (by kernel_rfl) (by kernel_rfl) (by kernel_rfl) (fun _ _ _ h => h) (by rfl) ?_ ?_
    rotate_left
    · intro w9 h9; try dsimp only at h9
      obtain ⟨x9, rfl⟩ := later_of h9
      go_simp; try with_reducible rfl
    try simp only [Act.put, List.setIfInBounds_toArray, List.set_cons_zero, List.set_cons_succ]
    refine restS_take (v := ?_) 3 rfl (by kernel_rfl) (by kernel_rfl) (by kernel_rfl) (fun _ _ _ h => h) (by rfl) ?_ ?_
    rotate_left
    · intro w9 h9; try dsimp only at h9
      go_split_ands
      go_simp; try with_reducible rfl
    try simp only [Act.put, List.setIfInBounds_toArray, List.set_cons_zero, List.set_cons_succ]
    refine restS_take (v := ?_) 4 rfl (by kernel_rfl) (by kernel_rfl) (by kernel_rfl) (fun _ _ _ h => h) (by rfl) ?_ ?_
    rotate_left
    · intro w9 h9; try dsimp only at h9
      go_split_ands
      go_simp; try with_reducible rfl
    try simp only [Act.put, List.setIfInBounds_toArray, List.set_cons_zero, List.set_cons_succ]
    refine restS_take (v := ?_) 5 rfl (by kernel_rfl) (by kernel_rfl) (by kernel_rfl) (fun _ _ _ h => h) (by rfl) ?_ ?_
    rotate_left
    · intro w9 h9; try dsimp only at h9
      obtain ⟨x9, rfl⟩ := later_of h9
      go_simp; try with_reducible rfl
    try simp only [Act.put, List.setIfInBounds_toArray, List.set_cons_zero, List.set_cons_succ]
    refine restS_take (v := ?_) 6 rfl (by kernel_rfl) (by kernel_rfl) (by kernel_rfl) (fun _ _ _ h => h) (by rfl) ?_ ?_
    rotate_left
    · intro w9 h9; try dsimp only at h9
      go_split_ands
      go_simp; try with_reducible rfl
    try simp only [Act.put, List.setIfInBounds_toArray, List.set_cons_zero, List.set_cons_succ]
    refine restS_take (v := ?_) 7 rfl (by kernel_rfl) (by kernel_rfl) (by kernel_rfl) (fun _ _ _ h => h) (by rfl) ?_ ?_
    rotate_left
    · intro w9 h9; try dsimp only at h9
      go_split_ands
      go_simp; try with_reducible rfl
    try simp only [Act.put, List.setIfInBounds_toArray, List.set_cons_zero, List.set_cons_succ]
    refine restS_take (v := ?_) 8 rfl (by kernel_rfl) (by kernel_rfl) (by kernel_rfl) (fun _ _ _ h => h) (by rfl) ?_ ?_
    rotate_left
    · intro w9 h9; try dsimp only at h9
      obtain ⟨x9, rfl⟩ := later_of h9
      go_simp; try with_reducible rfl
    try simp only [Act.put, List.setIfInBounds_toArray, List.set_cons_zero, List.set_cons_succ]
    refine restS_take (v := ?_) 9 rfl (by kernel_rfl) (by kernel_rfl) (by kernel_rfl) (fun _ _ _ h => h) (by rfl) ?_ ?_
    rotate_left
    · intro w9 h9; try dsimp only at h9
      go_split_ands
      go_simp; try with_reducible rfl
    try simp only [Act.put, List.setIfInBounds_toArray, List.set_cons_zero, List.set_cons_succ]
    refine restS_take (v := ?_) 10 rfl (by kernel_rfl) (by kernel_rfl) (by kernel_rfl) (fun _ _ _ h => h) (by rfl) ?_ ?_
    rotate_left
    · intro w9 h9; try dsimp only at h9
      go_split_ands
      go_simp; try with_reducible rfl
    try simp only [Act.put, List.setIfInBounds_toArray, List.set_cons_zero, List.set_cons_succ]
    refine restS_take (v := ?_) 11 rfl (by kernel_rfl) (by kernel_rfl) (by kernel_rfl) (fun _ _ _ h => h) (by rfl) ?_ ?_
    rotate_left
    · intro w9 h9; try dsimp only at h9
      obtain ⟨x9, rfl⟩ := later_of h9
      go_simp; try with_reducible rfl
    try simp only [Act.put, List.setIfInBounds_toArray, List.set_cons_zero, List.set_cons_succ]
    refine restS_take (v := ?_) 12 rfl (by kernel_rfl) (by kernel_rfl) (by kernel_rfl) (fun _ _ _ h => h) (by rfl) ?_ ?_
    rotate_left
    · intro w9 h9; try dsimp only at h9
      obtain ⟨x9, rfl⟩ := later_of h9
      go_simp; try with_reducible rfl
    try simp only [Act.put, List.setIfInBounds_toArray, List.set_cons_zero, List.set_cons_succ]
    refine restS_take (v := ?_) 13 rfl (by kernel_rfl) (by kernel_rfl) (by kernel_rfl) (fun _ _ _ h => h) (by rfl) ?_ ?_
    rotate_left
    · intro w9 h9; try dsimp only at h9
      go_split_ands
      go_simp; try with_reducible rfl
    try simp only [Act.put, List.setIfInBounds_toArray, List.set_cons_zero, List.set_cons_succ]
    refine restS_alone 14 rfl (by kernel_rfl) (by rfl) (fun hS K hK => ?_)
    go_wp2_with fail
    refine hK.out _ _ (by (repeat (first | with_reducible exact Below.refl _ _ | ((with_reducible refine bl_alloc ?_ ?_); (focus (first | (simp; done) | (simp; omega) | omega))) | ((with_reducible refine bl_set ?_ ?_); (focus (first | (simp; done) | (simp; omega) | omega))) | ((with_reducible refine bl_later ?_ ?_); (focus (first | (simp; done) | (simp; omega) | omega))) | with_reducible refine bl_drew ?_ | with_reducible refine bl_drewN ?_ | ((with_reducible refine bl_step (by assumption) ?_ ?_); (focus (first | (simp; done) | (simp; omega) | omega)))))) ?_
    try simp only [Act.put, List.setIfInBounds_toArray, List.set_cons_zero, List.set_cons_succ]
    clear hK K hS
    refine restS_alone 15 rfl (by kernel_rfl) (by rfl) (fun hS K hK => ?_)
    go_wp2_with fail
    refine hK.out _ _ (by (repeat (first | with_reducible exact Below.refl _ _ | ((with_reducible refine bl_alloc ?_ ?_); (focus (first | (simp; done) | (simp; omega) | omega))) | ((with_reducible refine bl_set ?_ ?_); (focus (first | (simp; done) | (simp; omega) | omega))) | ((with_reducible refine bl_later ?_ ?_); (focus (first | (simp; done) | (simp; omega) | omega))) | with_reducible refine bl_drew ?_ | with_reducible refine bl_drewN ?_ | ((with_reducible refine bl_step (by assumption) ?_ ?_); (focus (first | (simp; done) | (simp; omega) | omega)))))) ?_
    try simp only [Act.put, List.setIfInBounds_toArray, List.set_cons_zero, List.set_cons_succ]
    clear hK K hS
    refine restS_done (by kernel_rfl) (fun hS => ?_)
    clear hS
    have Bz2 := ((Bz.alloc (.cells #[.int .i64 k, .int .i64 a, .int .i64 b, .int .i64 x, .int .i64 y] 68)).alloc (.cells #[.int .i64 i, .int .i64 t, .int .i64 c, .int .i64 s, .int .i64 k, .int .i64 a, .int .i64 b, .int .i64 x, .int .i64 y] 70)).drew
    have Fz2 := ((Fz.alloc (.cells #[.int .i64 k, .int .i64 a, .int .i64 b, .int .i64 x, .int .i64 y] 68)).alloc (.cells #[.int .i64 i, .int .i64 t, .int .i64 c, .int .i64 s, .int .i64 k, .int .i64 a, .int .i64 b, .int .i64 x, .int .i64 y] 70)).drew
    have By2 := (Bx.new (w1.alloc (.cells #[.int .i64 k, .int .i64 a, .int .i64 b, .int .i64 x, .int .i64 y] 68)) [.int .i64 i, .int .i64 t, .int .i64 c, .int .i64 s, .int .i64 k, .int .i64 a, .int .i64 b, .int .i64 x, .int .i64 y] 70).drew
    rw [World.size_alloc] at By2
    have q0 := Bz2.2
    have q1 := Fz2.2
    have q2 := By2.2
    have hw2 : Below w.heap.size w ((w1.alloc (.cells #[.int .i64 k, .int .i64 a, .int .i64 b, .int .i64 x, .int .i64 y] 68)).alloc (.cells #[.int .i64 i, .int .i64 t, .int .i64 c, .int .i64 s, .int .i64 k, .int .i64 a, .int .i64 b, .int .i64 x, .int .i64 y] 70)).drew := ((hw1.alloc hw1.size _).alloc (by have := hw1.size; simp; omega) _).drew
    go_wp2_with (go_at_call 154; refine (c_spec_EntryOk i t c s k a b x y _).mono ?_; rintro e w2 ⟨rfl, hb2⟩; clear q0 q1 q2; have q0 := (Bz2.below hb2).2; have q1 := (Fz2.below hb2).2; have q2 := (By2.below hb2).2; have hw3 := bl_step hb2 hw2.size hw2; have hz2 := hb2.size; simp only [World.size_drew, World.size_alloc] at hz2)
    refine bodyPost_ret (v := .tuple #[.agg #[.int .i64 0, .int .i64 0, .int .i64 0, .int .i64 0, .int .i64 0, .int .i64 0, .int .i64 0, .int .i64 0, .int .i64 0], .bool false]) (by simp [results, Try.results147, go_sem, *]) rfl ⟨rfl, ?_⟩
    (repeat (first | with_reducible exact Below.refl _ _ | ((with_reducible refine bl_alloc ?_ ?_); (focus (first | (simp; done) | (simp; omega) | omega))) | ((with_reducible refine bl_set ?_ ?_); (focus (first | (simp; done) | (simp; omega) | omega))) | ((with_reducible refine bl_later ?_ ?_); (focus (first | (simp; done) | (simp; omega) | omega))) | with_reducible refine bl_drew ?_ | with_reducible refine bl_drewN ?_ | ((with_reducible refine bl_step (by assumption) ?_ ?_); (focus (first | (simp; done) | (simp; omega) | omega)))))

end Go.Proofs.Ytpfkfppooeikeaa
/- Walks of functions of the program, printed by a program of the prover. -/
namespace Go.Proofs.Ytpfkfppooeikeaa
open Go.ChangeShapes Go.WideShapes Go.ChangeAt Go.RowKit Go.Deep
set_option maxHeartbeats 1600000
set_option maxRecDepth 100000
theorem c_spec_RowFeed_bad (ao : Option Addr) (cap : Nat) (l : List Int) (w : World) (hh : IntsR w ao l) (hbad : l.length < 3 ∨ 30 < l.length ∨ l.length % 9 ≠ 3 ∨ l.headD 0 ≠ 4) :
    Calls Try.prog 94 #[.slice ao l.length cap] w fun e w' => e = .returned (.tuple #[.agg #[.int .i64 0, .int .i64 0, .slice none 0 0], .bool false]) ∧ Below w.heap.size w w' := by
  have hm := hh.2.1
  by_cases h1 : l.length < 3
  · have e1 : decide ((l.length : Int) < 3) = true := by simp; omega
    go_enter Try.func94, Try.ntmps94
    go_wp2_with fail
    refine bodyPost_ret (v := .tuple #[.agg #[.int .i64 0, .int .i64 0, .slice none 0 0], .bool false]) (by simp [results, Try.results94, go_sem, *]) rfl ⟨rfl, ?_⟩
    (repeat (first | with_reducible exact Below.refl _ _ | ((with_reducible refine bl_alloc ?_ ?_); (focus (first | (simp; done) | (simp; omega) | omega))) | ((with_reducible refine bl_set ?_ ?_); (focus (first | (simp; done) | (simp; omega) | omega))) | ((with_reducible refine bl_later ?_ ?_); (focus (first | (simp; done) | (simp; omega) | omega))) | with_reducible refine bl_drew ?_ | with_reducible refine bl_drewN ?_ | ((with_reducible refine bl_step (by assumption) ?_ ?_); (focus (first | (simp; done) | (simp; omega) | omega)))))
  by_cases h2 : 30 < l.length
  · have e1 : decide ((l.length : Int) < 3) = false := by simp; omega
    have e2 : decide ((30 : Int) < (l.length : Int)) = true := by simp; omega
    go_enter Try.func94, Try.ntmps94
    go_wp2_with fail
    refine bodyPost_ret (v := .tuple #[.agg #[.int .i64 0, .int .i64 0, .slice none 0 0], .bool false]) (by simp [results, Try.results94, go_sem, *]) rfl ⟨rfl, ?_⟩
    (repeat (first | with_reducible exact Below.refl _ _ | ((with_reducible refine bl_alloc ?_ ?_); (focus (first | (simp; done) | (simp; omega) | omega))) | ((with_reducible refine bl_set ?_ ?_); (focus (first | (simp; done) | (simp; omega) | omega))) | ((with_reducible refine bl_later ?_ ?_); (focus (first | (simp; done) | (simp; omega) | omega))) | with_reducible refine bl_drew ?_ | with_reducible refine bl_drewN ?_ | ((with_reducible refine bl_step (by assumption) ?_ ?_); (focus (first | (simp; done) | (simp; omega) | omega)))))
  have hp : (0 : Int) < (l.length : Int) := by omega
  have h0l : 0 < l.length := by omega
  have e1 : decide ((l.length : Int) < 3) = false := by simp; omega
  have e2 : decide ((30 : Int) < (l.length : Int)) = false := by simp; omega
  by_cases h3 : l.length % 9 ≠ 3
  · have e3 : ((l.length : Int) % 9 != 3) = true := by simp only [bne_iff_ne, ne_eq]; omega
    have H3 := Lib.hid h3
    clear h3
    go_enter Try.func94, Try.ntmps94
    go_wp2_with fail
    refine bodyPost_ret (v := .tuple #[.agg #[.int .i64 0, .int .i64 0, .slice none 0 0], .bool false]) (by simp [results, Try.results94, go_sem, *]) rfl ⟨rfl, ?_⟩
    (repeat (first | with_reducible exact Below.refl _ _ | ((with_reducible refine bl_alloc ?_ ?_); (focus (first | (simp; done) | (simp; omega) | omega))) | ((with_reducible refine bl_set ?_ ?_); (focus (first | (simp; done) | (simp; omega) | omega))) | ((with_reducible refine bl_later ?_ ?_); (focus (first | (simp; done) | (simp; omega) | omega))) | with_reducible refine bl_drew ?_ | with_reducible refine bl_drewN ?_ | ((with_reducible refine bl_step (by assumption) ?_ ?_); (focus (first | (simp; done) | (simp; omega) | omega)))))
  have e3 : ((l.length : Int) % 9 != 3) = false := by simp only [bne_eq_false_iff_eq]; omega
  obtain ⟨b0, off, rfl, hbl, hr0, hc⟩ := hh.at (k := 0) h0l
  have k0 := hc 0 h0l
  have hd : l.headD 0 = l[0] := by
    cases l with
    | nil => simp at h0l
    | cons x r => rfl
  have e4 : (l[0] != 4) = true := by simp only [bne_iff_ne, ne_eq]; rw [← hd]; omega
  rw [Nat.add_zero] at k0
  clear hc hd hr0 h3 hbad
  have hbl1 : b0 < w.heap.size + 1 := by omega
  go_enter Try.func94, Try.ntmps94
  go_wp2_with fail
  refine bodyPost_ret (v := .tuple #[.agg #[.int .i64 0, .int .i64 0, .slice none 0 0], .bool false]) (by simp [results, Try.results94, go_sem, *]) rfl ⟨rfl, ?_⟩
  (repeat (first | with_reducible exact Below.refl _ _ | ((with_reducible refine bl_alloc ?_ ?_); (focus (first | (simp; done) | (simp; omega) | omega))) | ((with_reducible refine bl_set ?_ ?_); (focus (first | (simp; done) | (simp; omega) | omega))) | ((with_reducible refine bl_later ?_ ?_); (focus (first | (simp; done) | (simp; omega) | omega))) | with_reducible refine bl_drew ?_ | with_reducible refine bl_drewN ?_ | ((with_reducible refine bl_step (by assumption) ?_ ?_); (focus (first | (simp; done) | (simp; omega) | omega)))))
theorem c_spec_RowFeed_shape (ao : Option Addr) (cap : Nat) (l : List Int) (p0 p1 : Int) (r : List Int) (w : World) (hh : IntsR w ao l) (hcap : l.length ≤ cap) (Hl : Hid (l = 4 :: p0 :: p1 :: r)) (hl3 : 3 ≤ l.length) (hl30 : l.length ≤ 30) (hev : Hid (l.length % 9 = 3)) :
    Calls Try.prog 94 #[.slice ao l.length cap] w (RetRowFeed w l) := by
  have hm := hh.2.1
  obtain ⟨i0, hi, hz0, hz1, hz2⟩ := info_parts info_int64
  obtain ⟨j0, hj, hj0, hj1, hj2⟩ := info_parts info_Entry
  have hlen : Hid (l.length = 3 + r.length) := by show l.length = _; rw [Hl.out]; simp; omega
  have hlr : r.length ≤ 27 := by have := hlen.out; omega
  have hh2 : IntsR w ao (4 :: p0 :: p1 :: r) := Hl.out ▸ hh
  have Hdr : Hid (l.drop 3 = r) := by show l.drop 3 = r; rw [Hl.out]; rfl
  obtain ⟨b0, off, rfl, hbl, hr0, hc⟩ := hh2.at (k := 0) (by simp)
  have k0 := hc 0 (by simp)
  have k1 := hc 1 (by simp)
  have k2 := hc 2 (by simp)
  simp only [List.getElem_cons_zero, List.getElem_cons_succ, Nat.add_zero] at k0 k1 k2
  have hbl1 : b0 < w.heap.size + 1 := by omega
  have hp0 : (0 : Int) < (l.length : Int) := by omega
  have hp1 : (1 : Int) < (l.length : Int) := by omega
  have hp2 : (2 : Int) < (l.length : Int) := by omega
  have e1 : decide ((l.length : Int) < 3) = false := by simp; omega
  have e2 : decide ((30 : Int) < (l.length : Int)) = false := by simp; omega
  have e3 : ((l.length : Int) % 9 != 3) = false := by have h7 := hev.out; simp only [bne_eq_false_iff_eq]; omega
  have hBz := ((Bx.new w [.int .i64 0, .int .i64 0, .slice none 0 0] 44).alloc (.cells ([.int .i64 p0, .int .i64 p1, .slice none 0 0] : List Value).toArray 44)).drew
  have hFz := ((Fx.new w [.int .i64 0, .int .i64 0, .slice none 0 0] 44).alloc (.cells ([.int .i64 p0, .int .i64 p1, .slice none 0 0] : List Value).toArray 44)).drew
  have hBx := (Bx.new (w.alloc (.cells ([.int .i64 0, .int .i64 0, .slice none 0 0] : List Value).toArray 44)) [.int .i64 p0, .int .i64 p1, .slice none 0 0] 44).drew
  have hFx := (Fx.new (w.alloc (.cells ([.int .i64 0, .int .i64 0, .slice none 0 0] : List Value).toArray 44)) [.int .i64 p0, .int .i64 p1, .slice none 0 0] 44).drew
  rw [World.size_alloc] at hBx hFx
  have HBz := Lib.hid hBz
  have HFz := Lib.hid hFz
  have HBx := Lib.hid hBx
  have HFx := Lib.hid hFx
  clear hBz hFz hBx hFx hc hh2 hr0
  go_enter Try.func94, Try.ntmps94
  go_wp2_with fail
  refine restS_begin (fun W => Below w.heap.size w W) (by kernel_rfl) (by (repeat (first | with_reducible exact Below.refl _ _ | ((with_reducible refine bl_alloc ?_ ?_); (focus (first | (simp; done) | (simp; omega) | omega))) | ((with_reducible refine bl_set ?_ ?_); (focus (first | (simp; done) | (simp; omega) | omega))) | ((with_reducible refine bl_later ?_ ?_); (focus (first | (simp; done) | (simp; omega) | omega))) | with_reducible refine bl_drew ?_ | with_reducible refine bl_drewN ?_ | ((with_reducible refine bl_step (by assumption) ?_ ?_); (focus (first | (simp; done) | (simp; omega) | omega)))))) ?_
  refine restS_take (v := ?_) 0 rfl (by kernel_rfl) (by kernel_rfl) (by kernel_rfl) (fun _ _ _ h => h) (by rfl) ?_ ?_
  rotate_left
  · intro w9 h9; try dsimp only at h9
    go_split_ands
    go_simp; try with_reducible rfl
  try simp only [Act.put, List.setIfInBounds_toArray, List.set_cons_zero, List.set_cons_succ]
  refine restS_take (v := ?_) 1 rfl (by kernel_rfl) (by kernel_rfl) (by kernel_rfl) (fun _ _ _ h => h) (by rfl) ?_ ?_
  rotate_left
  · intro w9 h9; try dsimp only at h9
    go_split_ands
    go_simp; try with_reducible rfl
  try simp only [Act.put, List.setIfInBounds_toArray, List.set_cons_zero, List.set_cons_succ]
  refine restS_take (v := ?_) 2 rfl (by kernel_rfl) (by kernel_rfl) (by kernel_rfl) (fun _ _ _ h => h) (by rfl) ?_ ?_
  rotate_left
  · intro w9 h9; try dsimp only at h9
    obtain ⟨x9, rfl⟩ := later_of h9
    go_simp; try with_reducible rfl
  try simp only [Act.put, List.setIfInBounds_toArray, List.set_cons_zero, List.set_cons_succ]
  refine restS_take (v := ?_) 3 rfl (by kernel_rfl) (by kernel_rfl) (by kernel_rfl) (fun _ _ _ h => h) (by rfl) ?_ ?_
  rotate_left
  · intro w9 h9; try dsimp only at h9
    go_split_ands
    go_simp; try with_reducible rfl
  try simp only [Act.put, List.setIfInBounds_toArray, List.set_cons_zero, List.set_cons_succ]
  refine restS_take (v := ?_) 4 rfl (by kernel_rfl) (by kernel_rfl) (by kernel_rfl) (fun _ _ _ h => h) (by rfl) ?_ ?_
  rotate_left
  · intro w9 h9; try dsimp only at h9
    go_split_ands
    go_simp; try with_reducible rfl
  try simp only [Act.put, List.setIfInBounds_toArray, List.set_cons_zero, List.set_cons_succ]
  refine restS_take (v := ?_) 5 rfl (by kernel_rfl) (by kernel_rfl) (by kernel_rfl) (fun _ _ _ h => h) (by rfl) ?_ ?_
  rotate_left
  · intro w9 h9; try dsimp only at h9
    obtain ⟨x9, rfl⟩ := later_of h9
    go_simp; try with_reducible rfl
  try simp only [Act.put, List.setIfInBounds_toArray, List.set_cons_zero, List.set_cons_succ]
  refine restS_take (v := ?_) 6 rfl (by kernel_rfl) (by kernel_rfl) (by kernel_rfl) (fun _ _ _ h => h) (by rfl) ?_ ?_
  rotate_left
  · intro w9 h9; try dsimp only at h9
    go_split_ands
    go_simp; try with_reducible rfl
  try simp only [Act.put, List.setIfInBounds_toArray, List.set_cons_zero, List.set_cons_succ]
  refine restS_alone 7 rfl (by kernel_rfl) (by rfl) (fun hS K hK => ?_)
  go_wp2_with fail
  refine hK.out _ _ (by (repeat (first | with_reducible exact Below.refl _ _ | ((with_reducible refine bl_alloc ?_ ?_); (focus (first | (simp; done) | (simp; omega) | omega))) | ((with_reducible refine bl_set ?_ ?_); (focus (first | (simp; done) | (simp; omega) | omega))) | ((with_reducible refine bl_later ?_ ?_); (focus (first | (simp; done) | (simp; omega) | omega))) | with_reducible refine bl_drew ?_ | with_reducible refine bl_drewN ?_ | ((with_reducible refine bl_step (by assumption) ?_ ?_); (focus (first | (simp; done) | (simp; omega) | omega)))))) ?_
  try simp only [Act.put, List.setIfInBounds_toArray, List.set_cons_zero, List.set_cons_succ]
  clear hK K hS
  refine restS_alone 8 rfl (by kernel_rfl) (by rfl) (fun hS K hK => ?_)
  go_wp2_with fail
  refine hK.out _ _ (by (repeat (first | with_reducible exact Below.refl _ _ | ((with_reducible refine bl_alloc ?_ ?_); (focus (first | (simp; done) | (simp; omega) | omega))) | ((with_reducible refine bl_set ?_ ?_); (focus (first | (simp; done) | (simp; omega) | omega))) | ((with_reducible refine bl_later ?_ ?_); (focus (first | (simp; done) | (simp; omega) | omega))) | with_reducible refine bl_drew ?_ | with_reducible refine bl_drewN ?_ | ((with_reducible refine bl_step (by assumption) ?_ ?_); (focus (first | (simp; done) | (simp; omega) | omega)))))) ?_
  try simp only [Act.put, List.setIfInBounds_toArray, List.set_cons_zero, List.set_cons_succ]
  clear hK K hS
  refine restS_done (by kernel_rfl) (fun hS => ?_)
  go_wp2_with fail
  go_loopw [5] (fun v wr => ∃ (n : Nat) (q : List Int) (D : List (Int × Int × Int × Int × Int × Int × Int × Int × Int)) (ao' : Option Addr) (cap' : Nat), v = .int .i64 n ∧ Hid (n % 9 = 3) ∧ Hid (l.drop n = q) ∧ Hid (chunk9 r = D ++ chunk9 q) ∧ Hid (D.length * 9 + q.length ≤ 1000) ∧ n ≤ l.length ∧ Bx wr (w.heap.size + 1) [.int .i64 p0, .int .i64 p1, .slice ao' D.length cap'] ∧ Fx wr (w.heap.size + 1) ∧ Bx wr w.heap.size [.int .i64 0, .int .i64 0, .slice none 0 0] ∧ Fx wr w.heap.size ∧ OwnA entryE wr (w.heap.size + 1 + 1) 70 (.slice ao' D.length cap') D ∧ Below w.heap.size w wr)
    (fun v _ => l.length - (intOf v).toNat)
  case atStart => exact ⟨3, r, [], none, 0, rfl, rfl, Hdr.out, rfl, (by show _ ≤ 1000; simp; omega), hl3, HBx.out, HFx.out, HBz.out, HFz.out, ownA_nil _ _ _ _, hS⟩
  case round =>
    obtain ⟨n, q, D, ao', cap', rfl, Hpar, Hq, Hd, HdL, hnl, hBx, hFx, hBz, hFz, hOw, hbel⟩ := hrel
    have hql : q.length = l.length - n := by rw [← Hq.out, List.length_drop]
    have Hql := Lib.hid hql
    clear hql
    by_cases hlt : n < l.length
    · have hn9 : n + 9 ≤ l.length := by have h7 := Hpar.out; have h8 := hev.out; omega
      obtain ⟨x0, x1, x2, x3, x4, x5, x6, x7, x8, q, rfl⟩ := cut9 (q := q) (by have h7 := Hql.out; omega)
      obtain ⟨ao5, hsh, hR5⟩ := slice_cut (P := Try.prog) (t := 22) Try.underlying22 hi hz1 cap n (n + 9) hh (by omega) hn9 hcap
      have hsh2 : ∀ W, (Instr.slice 22 (.slice (some ⟨b0, off, none⟩) l.length cap) (some (.int .i64 (n : Int))) (some (.int .i64 ((n : Int) + 9))) none).run Try.prog W = .ok (.slice ao5 9 (cap - n)) W := fun W => by
        have h7 := hsh W
        rw [show n + 9 - n = 9 by omega] at h7
        exact h7
      have hR6 : IntsR w ao5 [x0, x1, x2, x3, x4, x5, x6, x7, x8] := by
        rw [show n + 9 - n = 9 by omega, Hq.out] at hR5
        exact hR5
      have HR5 := Lib.hid hR6
      have hq : IntsR w ao5 [x0, x1, x2, x3, x4, x5, x6, x7, x8] := hR6
      have hc9 : 9 ≤ cap - n := by omega
      have hDl : D.length ≤ 1000 := by have h7 := HdL.out; omega
      have hlt2 : (n : Int) < (l.length : Int) := by omega
      have hnn : (n : Int) + 9 ≤ 1000 := by omega
      clear hR5 hR6 hsh
      cases hE : entryOk x0 x1 x2 x3 x4 x5 x6 x7 x8
      · have hj : isFeed l = false := by
          rw [Hl.out]
          have hm9 : ((x0, x1, x2, x3, x4, x5, x6, x7, x8) : Int × Int × Int × Int × Int × Int × Int × Int × Int) ∈ chunk9 r := by rw [Hd.out]; simp [chunk9]
          simp [isFeed, feedOk_mem hm9 hE]
        have hOk : entryE.ok (0, 0, 0, 0, 0, 0, 0, 0, 0) := ⟨by simp [inI64], by simp [inI64], by simp [inI64], by simp [inI64], by simp [inI64], by simp [inI64], by simp [inI64], by simp [inI64], by simp [inI64]⟩
        go_wp2_with ((go_at_call 147; refine (c_spec_RowEntry_f _ _ x0 x1 x2 x3 x4 x5 x6 x7 x8 _ (HR5.out.below (by (repeat (first | with_reducible exact Below.refl _ _ | ((with_reducible refine bl_alloc ?_ ?_); (focus (first | (simp; done) | (simp; omega) | omega))) | ((with_reducible refine bl_set ?_ ?_); (focus (first | (simp; done) | (simp; omega) | omega))) | ((with_reducible refine bl_later ?_ ?_); (focus (first | (simp; done) | (simp; omega) | omega))) | with_reducible refine bl_drew ?_ | with_reducible refine bl_drewN ?_ | ((with_reducible refine bl_step (by assumption) ?_ ?_); (focus (first | (simp; done) | (simp; omega) | omega))))))) (by omega) hE).mono ?_; rintro e w4 ⟨rfl, hb4⟩; have hBx4 := hBx.below hb4; have hFx4 := hFx.below hb4; have hBz4 := hBz.below hb4; have hFz4 := hFz.below hb4; have hOw4 := hOw.below hb4; have hbel4 := bl_step hb4 hbel.size hbel; have HL := Lib.hid (lit_entry w4 (.cells ([.int .i64 0, .int .i64 0, .int .i64 0, .int .i64 0, .int .i64 0, .int .i64 0, .int .i64 0, .int .i64 0, .int .i64 0] : List Value).toArray 70) 0 0 0 0 0 0 0 0 0 hOk); have q0 := hBx4.2; have hBl := hBx4.1; have q8 := hBz4.2; have q9 := hFz4.2; have hBl2 := hBz4.1; clear hb4))
        refine bodyPost_ret (v := .tuple #[.agg #[.int .i64 0, .int .i64 0, .slice none 0 0], .bool false]) (by simp [results, Try.results94, go_sem, *]) rfl (retRowFeed_no hj ?_)
        (repeat (first | with_reducible exact Below.refl _ _ | ((with_reducible refine bl_alloc ?_ ?_); (focus (first | (simp; done) | (simp; omega) | omega))) | ((with_reducible refine bl_set ?_ ?_); (focus (first | (simp; done) | (simp; omega) | omega))) | ((with_reducible refine bl_later ?_ ?_); (focus (first | (simp; done) | (simp; omega) | omega))) | with_reducible refine bl_drew ?_ | with_reducible refine bl_drewN ?_ | ((with_reducible refine bl_step (by assumption) ?_ ?_); (focus (first | (simp; done) | (simp; omega) | omega)))))
      · skip
        have hOk : entryE.ok (x0, x1, x2, x3, x4, x5, x6, x7, x8) := ⟨hq.1 _ (by simp), hq.1 _ (by simp), hq.1 _ (by simp), hq.1 _ (by simp), hq.1 _ (by simp), hq.1 _ (by simp), hq.1 _ (by simp), hq.1 _ (by simp), hq.1 _ (by simp)⟩
        go_wp2_with (first | (at_builtin; refine wpList_append_rows (E := entryE) rfl _ _ _ rfl (w.heap.size + 1 + 1) 70 j0 (.agg #[.int .i64 0, .int .i64 0, .int .i64 0, .int .i64 0, .int .i64 0, .int .i64 0, .int .i64 0, .int .i64 0, .int .i64 0]) 72 Try.underlying42 hj hj0 hj1 hj2 rfl (by omega) entry_one _ _ _ _ D [(x0, x1, x2, x3, x4, x5, x6, x7, x8)] rfl ((hOw4.below ((Below.refl _ _).alloc (Nat.le_refl _) (.cells ([.int .i64 x0, .int .i64 x1, .int .i64 x2, .int .i64 x3, .int .i64 x4, .int .i64 x5, .int .i64 x6, .int .i64 x7, .int .i64 x8] : List Value).toArray 70))).below ((Below.refl _ _).alloc (Nat.le_refl _) (.cells ([.int .i64 x0, .int .i64 x1, .int .i64 x2, .int .i64 x3, .int .i64 x4, .int .i64 x5, .int .i64 x6, .int .i64 x7, .int .i64 x8] : List Value).toArray 70))) rfl (HL.out).read (by simp only [List.length_cons, List.length_nil]; omega) (by have h7 := hBx4.1; simp only [World.size_alloc]; omega) (fun a5 c5 w5 ho5 hg5 => ?_); have hlt2 := hOw4.2.2.lt; have hBx5 := ((hBx4.alloc (.cells ([.int .i64 x0, .int .i64 x1, .int .i64 x2, .int .i64 x3, .int .i64 x4, .int .i64 x5, .int .i64 x6, .int .i64 x7, .int .i64 x8] : List Value).toArray 70)).alloc (.cells ([.int .i64 x0, .int .i64 x1, .int .i64 x2, .int .i64 x3, .int .i64 x4, .int .i64 x5, .int .i64 x6, .int .i64 x7, .int .i64 x8] : List Value).toArray 70)).grown hg5 (fun e => by have h7 := (hlt2 _ e).1; omega); have hFx5 := ((hFx4.alloc (.cells ([.int .i64 x0, .int .i64 x1, .int .i64 x2, .int .i64 x3, .int .i64 x4, .int .i64 x5, .int .i64 x6, .int .i64 x7, .int .i64 x8] : List Value).toArray 70)).alloc (.cells ([.int .i64 x0, .int .i64 x1, .int .i64 x2, .int .i64 x3, .int .i64 x4, .int .i64 x5, .int .i64 x6, .int .i64 x7, .int .i64 x8] : List Value).toArray 70)).grown hg5 (fun e => by have h7 := (hlt2 _ e).1; omega); have hBz5 := ((hBz4.alloc (.cells ([.int .i64 x0, .int .i64 x1, .int .i64 x2, .int .i64 x3, .int .i64 x4, .int .i64 x5, .int .i64 x6, .int .i64 x7, .int .i64 x8] : List Value).toArray 70)).alloc (.cells ([.int .i64 x0, .int .i64 x1, .int .i64 x2, .int .i64 x3, .int .i64 x4, .int .i64 x5, .int .i64 x6, .int .i64 x7, .int .i64 x8] : List Value).toArray 70)).grown hg5 (fun e => by have h7 := (hlt2 _ e).1; omega); have hFz5 := ((hFz4.alloc (.cells ([.int .i64 x0, .int .i64 x1, .int .i64 x2, .int .i64 x3, .int .i64 x4, .int .i64 x5, .int .i64 x6, .int .i64 x7, .int .i64 x8] : List Value).toArray 70)).alloc (.cells ([.int .i64 x0, .int .i64 x1, .int .i64 x2, .int .i64 x3, .int .i64 x4, .int .i64 x5, .int .i64 x6, .int .i64 x7, .int .i64 x8] : List Value).toArray 70)).grown hg5 (fun e => by have h7 := (hlt2 _ e).1; omega); have hB5 := bl_grown hg5 (by have h7 := hbel4.size; simp only [World.size_alloc]; omega) (fun k hk => Nat.le_trans (by omega) (hlt2 k hk).1) ((hbel4.alloc hbel4.size (.cells ([.int .i64 x0, .int .i64 x1, .int .i64 x2, .int .i64 x3, .int .i64 x4, .int .i64 x5, .int .i64 x6, .int .i64 x7, .int .i64 x8] : List Value).toArray 70)).alloc (by have h7 := hbel4.size; simp only [World.size_alloc]; omega) (.cells ([.int .i64 x0, .int .i64 x1, .int .i64 x2, .int .i64 x3, .int .i64 x4, .int .i64 x5, .int .i64 x6, .int .i64 x7, .int .i64 x8] : List Value).toArray 70)); have q6 := hBx5.2; have q7 := hFx5.2; clear q0) | (go_at_call 147; refine (c_spec_RowEntry_t _ _ x0 x1 x2 x3 x4 x5 x6 x7 x8 _ (HR5.out.below (by (repeat (first | with_reducible exact Below.refl _ _ | ((with_reducible refine bl_alloc ?_ ?_); (focus (first | (simp; done) | (simp; omega) | omega))) | ((with_reducible refine bl_set ?_ ?_); (focus (first | (simp; done) | (simp; omega) | omega))) | ((with_reducible refine bl_later ?_ ?_); (focus (first | (simp; done) | (simp; omega) | omega))) | with_reducible refine bl_drew ?_ | with_reducible refine bl_drewN ?_ | ((with_reducible refine bl_step (by assumption) ?_ ?_); (focus (first | (simp; done) | (simp; omega) | omega))))))) (by omega) hE).mono ?_; rintro e w4 ⟨rfl, hb4⟩; have hBx4 := hBx.below hb4; have hFx4 := hFx.below hb4; have hBz4 := hBz.below hb4; have hFz4 := hFz.below hb4; have hOw4 := hOw.below hb4; have hbel4 := bl_step hb4 hbel.size hbel; have HL := Lib.hid (lit_entry w4 (.cells ([.int .i64 x0, .int .i64 x1, .int .i64 x2, .int .i64 x3, .int .i64 x4, .int .i64 x5, .int .i64 x6, .int .i64 x7, .int .i64 x8] : List Value).toArray 70) x0 x1 x2 x3 x4 x5 x6 x7 x8 hOk); have q0 := hBx4.2; have hBl := hBx4.1; clear hb4))
        have hDx := hBx5.set 2 (.slice a5 (D.length + 1) c5) (by simp)
        simp only [List.set_cons_succ, List.set_cons_zero] at hDx
        go_roundw
        case rel => exact ⟨n + 9, q, D ++ [(x0, x1, x2, x3, x4, x5, x6, x7, x8)], a5, c5, by go_num, (by have h7 := Hpar.out; show _ % 9 = 3; omega), (by show l.drop (n + 9) = q; rw [← List.drop_drop, Hq.out]; rfl), (by show chunk9 r = _; rw [Hd.out]; simp [chunk9]), (by show _ ≤ 1000; have h7 := HdL.out; simp only [List.length_append, List.length_cons, List.length_nil] at h7 ⊢; omega), hn9, (by rw [List.length_append]; exact hDx), hFx5.set _ _, hBz5.setOther _ _ (by simp), hFz5.set _ _, ho5.set (by simp), hB5.setCell (by simp) _⟩
        case measure => simp [intOf]; omega
    · have h0 : q = [] := List.eq_nil_of_length_eq_zero (by have h7 := Hql.out; omega)
      subst h0
      have e : D = chunk9 r := by rw [Hd.out]; simp [chunk9]
      subst e
      have hd : decide (n < l.length) = false := by simp; omega
      have hr7 : r.length % 9 = 0 := by have h7 := hev.out; have h8 := hlen.out; omega
      cases hE : feedOk p0 p1 (chunk9 r)
      · have hj : isFeed l = false := by rw [Hl.out]; simp [isFeed, hE]
        have q0 := hBx.2
        go_wp2_with fail
        clear q0
        refine (c_spec_FeedOk _ _ _ _ _ _ hOw.read).mono ?_
        rintro e w1 ⟨rfl, hb1⟩
        replace hBx := hBx.below hb1
        replace hBz := hBz.below hb1
        replace hFz := hFz.below hb1
        replace hOw := hOw.below hb1
        replace hbel := bl_step hb1 hbel.size hbel
        clear hb1
        have q0 := hBx.2
        have q1 := hBz.2
        have q2 := hFz.2
        go_wp2_with fail
        refine bodyPost_ret (v := .tuple #[.agg #[.int .i64 0, .int .i64 0, .slice none 0 0], .bool false]) (by simp [results, Try.results94, go_sem, *]) rfl (retRowFeed_no hj ?_)
        (repeat (first | with_reducible exact Below.refl _ _ | ((with_reducible refine bl_alloc ?_ ?_); (focus (first | (simp; done) | (simp; omega) | omega))) | ((with_reducible refine bl_set ?_ ?_); (focus (first | (simp; done) | (simp; omega) | omega))) | ((with_reducible refine bl_later ?_ ?_); (focus (first | (simp; done) | (simp; omega) | omega))) | with_reducible refine bl_drew ?_ | with_reducible refine bl_drewN ?_ | ((with_reducible refine bl_step (by assumption) ?_ ?_); (focus (first | (simp; done) | (simp; omega) | omega)))))
      · have hj : isFeed (4 :: p0 :: p1 :: r) = true := by simp [isFeed, hE, hlr, hr7]
        have q0 := hBx.2
        go_wp2_with fail
        clear q0
        refine (c_spec_FeedOk _ _ _ _ _ _ hOw.read).mono ?_
        rintro e w1 ⟨rfl, hb1⟩
        replace hBx := hBx.below hb1
        replace hBz := hBz.below hb1
        replace hFz := hFz.below hb1
        replace hOw := hOw.below hb1
        replace hbel := bl_step hb1 hbel.size hbel
        clear hb1
        have q0 := hBx.2
        have q1 := hBz.2
        have q2 := hFz.2
        go_wp2_with fail
        refine bodyPost_ret (v := .tuple #[.agg #[.int .i64 p0, .int .i64 p1, .slice ao' (chunk9 r).length cap'], .bool true]) (by simp [results, Try.results94, go_sem, *]) rfl ?_
        rw [Hl.out]
        refine retRowFeed_yes hj ?_ (by (repeat (first | with_reducible exact Below.refl _ _ | ((with_reducible refine bl_alloc ?_ ?_); (focus (first | (simp; done) | (simp; omega) | omega))) | ((with_reducible refine bl_set ?_ ?_); (focus (first | (simp; done) | (simp; omega) | omega))) | ((with_reducible refine bl_later ?_ ?_); (focus (first | (simp; done) | (simp; omega) | omega))) | with_reducible refine bl_drew ?_ | with_reducible refine bl_drewN ?_ | ((with_reducible refine bl_step (by assumption) ?_ ?_); (focus (first | (simp; done) | (simp; omega) | omega))))))
        refine OwnA.weak (lo := w.heap.size + 1 + 1) (by omega) ?_
        repeat (first | ((with_reducible refine OwnA.set ?_ ?_); (focus (first | (simp; done) | (simp; omega) | omega))))
        exact hOw

end Go.Proofs.Ytpfkfppooeikeaa
/- Walks of functions of the program, printed by a program of the prover. -/
namespace Go.Proofs.Ytpfkfppooeikeaa
open Go.ChangeShapes Go.WideShapes Go.ChangeAt Go.RowKit Go.Deep
set_option maxHeartbeats 1600000
set_option maxRecDepth 100000
theorem c_decoded_Feed_bad (ao : Option Addr) (cap : Nat) (l : List Int) (w : World) (hh : IntsR w ao l) (_hcap : l.length ≤ cap) (hk : (kindOf l != 4) = true) : Calls Try.prog 140 #[.slice ao l.length cap, .int .i64 4, .int .i64 2, .int .i64 29, .func (Fn.func 141) #[] #[]] w (RetRowFeed w l) := by
  have hm := hh.2.1
  have Hj := Lib.hid (isFeed_ne hk)
  have h' : ∀ W, Below w.heap.size w W → IntsR W ao l := fun W hb => hh.below hb
  go_enter Try.func140, Try.ntmps140
  go_wp2_with (go_at_call 90; refine (c_impl_KindOf _ _ l _ (h' _ (by (repeat (first | with_reducible exact Below.refl _ _ | ((with_reducible refine bl_alloc ?_ ?_); (focus (first | (simp; done) | (simp; omega) | omega))) | ((with_reducible refine bl_set ?_ ?_); (focus (first | (simp; done) | (simp; omega) | omega))) | ((with_reducible refine bl_later ?_ ?_); (focus (first | (simp; done) | (simp; omega) | omega))) | with_reducible refine bl_drew ?_ | with_reducible refine bl_drewN ?_ | ((with_reducible refine bl_step (by assumption) ?_ ?_); (focus (first | (simp; done) | (simp; omega) | omega)))))))).mono ?_; rintro e w' ⟨rfl, rfl⟩)
  have hj := Hj.out
  refine bodyPost_ret (v := .tuple #[.agg #[.int .i64 0, .int .i64 0, .slice none 0 0], .bool false]) (by simp [results, Try.results140, go_sem, *]) rfl (retRowFeed_no hj ?_)
  (repeat (first | with_reducible exact Below.refl _ _ | ((with_reducible refine bl_alloc ?_ ?_); (focus (first | (simp; done) | (simp; omega) | omega))) | ((with_reducible refine bl_set ?_ ?_); (focus (first | (simp; done) | (simp; omega) | omega))) | ((with_reducible refine bl_later ?_ ?_); (focus (first | (simp; done) | (simp; omega) | omega))) | with_reducible refine bl_drew ?_ | with_reducible refine bl_drewN ?_ | ((with_reducible refine bl_step (by assumption) ?_ ?_); (focus (first | (simp; done) | (simp; omega) | omega)))))
theorem c_decoded_Feed_len (ao : Option Addr) (cap : Nat) (l : List Int) (w : World) (hh : IntsR w ao l) (_hcap : l.length ≤ cap) (hk : (kindOf l != 4) = false) (h2 : l.length < 3 ∨ 30 < l.length) : Calls Try.prog 140 #[.slice ao l.length cap, .int .i64 4, .int .i64 2, .int .i64 29, .func (Fn.func 141) #[] #[]] w (RetRowFeed w l) := by
  have hm := hh.2.1
  have Hj : Hid (isFeed l = false) := by
    rcases h2 with h2 | h2
    · exact isFeed_short h2
    · exact isFeed_long h2
  obtain ⟨hl0, hl1, hd⟩ := kindOf_pos hk (by omega)
  clear hd
  have h' : ∀ W, Below w.heap.size w W → IntsR W ao l := fun W hb => hh.below hb
  by_cases h1 : l.length < 3
  · have e2 : decide ((l.length : Int) - 1 < 2) = true := by simp; omega
    go_enter Try.func140, Try.ntmps140
    go_wp2_with (go_at_call 90; refine (c_impl_KindOf _ _ l _ (h' _ (by (repeat (first | with_reducible exact Below.refl _ _ | ((with_reducible refine bl_alloc ?_ ?_); (focus (first | (simp; done) | (simp; omega) | omega))) | ((with_reducible refine bl_set ?_ ?_); (focus (first | (simp; done) | (simp; omega) | omega))) | ((with_reducible refine bl_later ?_ ?_); (focus (first | (simp; done) | (simp; omega) | omega))) | with_reducible refine bl_drew ?_ | with_reducible refine bl_drewN ?_ | ((with_reducible refine bl_step (by assumption) ?_ ?_); (focus (first | (simp; done) | (simp; omega) | omega)))))))).mono ?_; rintro e w' ⟨rfl, rfl⟩)
    have hj := Hj.out
    refine bodyPost_ret (v := .tuple #[.agg #[.int .i64 0, .int .i64 0, .slice none 0 0], .bool false]) (by simp [results, Try.results140, go_sem, *]) rfl (retRowFeed_no hj ?_)
    (repeat (first | with_reducible exact Below.refl _ _ | ((with_reducible refine bl_alloc ?_ ?_); (focus (first | (simp; done) | (simp; omega) | omega))) | ((with_reducible refine bl_set ?_ ?_); (focus (first | (simp; done) | (simp; omega) | omega))) | ((with_reducible refine bl_later ?_ ?_); (focus (first | (simp; done) | (simp; omega) | omega))) | with_reducible refine bl_drew ?_ | with_reducible refine bl_drewN ?_ | ((with_reducible refine bl_step (by assumption) ?_ ?_); (focus (first | (simp; done) | (simp; omega) | omega)))))
  · have e2 : decide ((l.length : Int) - 1 < 2) = false := by simp; omega
    have e3 : decide ((29 : Int) < (l.length : Int) - 1) = true := by simp; omega
    go_enter Try.func140, Try.ntmps140
    go_wp2_with (go_at_call 90; refine (c_impl_KindOf _ _ l _ (h' _ (by (repeat (first | with_reducible exact Below.refl _ _ | ((with_reducible refine bl_alloc ?_ ?_); (focus (first | (simp; done) | (simp; omega) | omega))) | ((with_reducible refine bl_set ?_ ?_); (focus (first | (simp; done) | (simp; omega) | omega))) | ((with_reducible refine bl_later ?_ ?_); (focus (first | (simp; done) | (simp; omega) | omega))) | with_reducible refine bl_drew ?_ | with_reducible refine bl_drewN ?_ | ((with_reducible refine bl_step (by assumption) ?_ ?_); (focus (first | (simp; done) | (simp; omega) | omega)))))))).mono ?_; rintro e w' ⟨rfl, rfl⟩)
    have hj := Hj.out
    refine bodyPost_ret (v := .tuple #[.agg #[.int .i64 0, .int .i64 0, .slice none 0 0], .bool false]) (by simp [results, Try.results140, go_sem, *]) rfl (retRowFeed_no hj ?_)
    (repeat (first | with_reducible exact Below.refl _ _ | ((with_reducible refine bl_alloc ?_ ?_); (focus (first | (simp; done) | (simp; omega) | omega))) | ((with_reducible refine bl_set ?_ ?_); (focus (first | (simp; done) | (simp; omega) | omega))) | ((with_reducible refine bl_later ?_ ?_); (focus (first | (simp; done) | (simp; omega) | omega))) | with_reducible refine bl_drew ?_ | with_reducible refine bl_drewN ?_ | ((with_reducible refine bl_step (by assumption) ?_ ?_); (focus (first | (simp; done) | (simp; omega) | omega)))))
theorem c_decoded_Feed_good (ao : Option Addr) (cap : Nat) (l : List Int) (p0 p1 : Int) (r : List Int) (w : World) (hh : IntsR w ao l) (hcap : l.length ≤ cap) (Hl : Hid (l = 4 :: p0 :: p1 :: r)) (hk : (kindOf l != 4) = false) (h6 : 3 ≤ l.length) (h22 : l.length ≤ 30) : Calls Try.prog 140 #[.slice ao l.length cap, .int .i64 4, .int .i64 2, .int .i64 29, .func (Fn.func 141) #[] #[]] w (RetRowFeed w l) := by
  have hm := hh.2.1
  obtain ⟨i0, hi, hz0, hz1, hz2⟩ := info_parts info_int64
  have hlen : Hid (l.length = 3 + r.length) := by show l.length = _; rw [Hl.out]; simp; omega
  have hlr : r.length ≤ 27 := by have := hlen.out; omega
  have h' : ∀ W, Below w.heap.size w W → IntsR W ao l := fun W hb => hh.below hb
  obtain ⟨ao3, hsl, hR3⟩ := slice_low (P := Try.prog) (t := 22) Try.underlying22 hi hz1 cap 1 hh (by omega) hcap
  have e9 : l.drop 1 = p0 :: p1 :: r := by rw [Hl.out]; rfl
  rw [e9] at hR3
  have hsl2 : ∀ W, (Instr.slice 22 (.slice ao l.length cap) (some (.int .i64 1)) none none).run Try.prog W = .ok (.slice ao3 (l.length - 1) (cap - 1)) W := hsl
  have hln : l.length - 1 = (p0 :: p1 :: r).length := by have h7 := hlen.out; simp only [List.length_cons]; omega
  have e2 : decide ((l.length : Int) - 1 < 2) = false := by simp; omega
  have e3 : decide ((29 : Int) < (l.length : Int) - 1) = false := by simp; omega
  have HR3 := Lib.hid hR3
  clear hR3 hsl e9
  rw [hln] at hsl2
  clear hln
  have hsd0 : (chunk9 r).length ≤ 1000 := by rw [len_chunk r.length r (by omega)]; omega
  have hOkE : feedOk p0 p1 ((chunk9 r).map entFix) = feedOk p0 p1 (chunk9 r) := feedOk_fix _ _ _
  obtain ⟨L, hL⟩ : ∃ L, L = (chunk9 r).map entFix := ⟨_, rfl⟩
  have hsd : L.length ≤ 1000 := by rw [hL, List.length_map]; exact hsd0
  have KC : Hid (∀ W, IntsR W ao3 (p0 :: p1 :: r) → Calls Try.prog 141 #[.slice ao3 (p0 :: p1 :: r).length (cap - 1)] W (RetFeed W p0 p1 L)) := fun W hW => by
    rw [hL]
    exact c_clos_Feed _ _ _ p0 p1 r _ hW (by simp) (by have h7 := hlen.out; omega) (by omega)
  rw [← hL] at hOkE
  cases hE : feedOk p0 p1 (chunk9 r)
  · rw [hE] at hOkE
    have hj : isFeed l = false := by rw [Hl.out]; simp [isFeed, hE]
    have Hj := Lib.hid hj
    clear hj hE hL
    go_enter Try.func140, Try.ntmps140
    go_wp2_with (go_at_call 90; refine (c_impl_KindOf _ _ l _ (h' _ (by (repeat (first | with_reducible exact Below.refl _ _ | ((with_reducible refine bl_alloc ?_ ?_); (focus (first | (simp; done) | (simp; omega) | omega))) | ((with_reducible refine bl_set ?_ ?_); (focus (first | (simp; done) | (simp; omega) | omega))) | ((with_reducible refine bl_later ?_ ?_); (focus (first | (simp; done) | (simp; omega) | omega))) | with_reducible refine bl_drew ?_ | with_reducible refine bl_drewN ?_ | ((with_reducible refine bl_step (by assumption) ?_ ?_); (focus (first | (simp; done) | (simp; omega) | omega)))))))).mono ?_; rintro e w' ⟨rfl, rfl⟩)
    go_wp2_with fail
    have hbW : Below w.heap.size w ((w.alloc (.cells ([.int .i64 0, .int .i64 0, .slice none 0 0] : List Value).toArray 44)).alloc (.cells ([.int .i64 0, .int .i64 0, .slice none 0 0] : List Value).toArray 44)) := by (repeat (first | with_reducible exact Below.refl _ _ | ((with_reducible refine bl_alloc ?_ ?_); (focus (first | (simp; done) | (simp; omega) | omega))) | ((with_reducible refine bl_set ?_ ?_); (focus (first | (simp; done) | (simp; omega) | omega))) | ((with_reducible refine bl_later ?_ ?_); (focus (first | (simp; done) | (simp; omega) | omega))) | with_reducible refine bl_drew ?_ | with_reducible refine bl_drewN ?_ | ((with_reducible refine bl_step (by assumption) ?_ ?_); (focus (first | (simp; done) | (simp; omega) | omega)))))
    have Bz := (Bx.new w [.int .i64 0, .int .i64 0, .slice none 0 0] 44).alloc (.cells ([.int .i64 0, .int .i64 0, .slice none 0 0] : List Value).toArray 44)
    have By := Bx.new (w.alloc (.cells ([.int .i64 0, .int .i64 0, .slice none 0 0] : List Value).toArray 44)) [.int .i64 0, .int .i64 0, .slice none 0 0] 44
    rw [World.size_alloc] at By
    have Fz := (Fx.new w [.int .i64 0, .int .i64 0, .slice none 0 0] 44).alloc (.cells ([.int .i64 0, .int .i64 0, .slice none 0 0] : List Value).toArray 44)
    have hR := HR3.out
    refine (KC.out _ (hR.below hbW)).mono ?_
    rintro e w3 ⟨a3, c3, rfl, hOw, hb3⟩
    simp only [World.size_alloc] at hOw
    replace Bz := (Bz.below hb3).alloc (.cells ([.int .i64 p0, .int .i64 p1, .slice a3 L.length c3] : List Value).toArray 44) |>.drew
    replace By := (By.below hb3).alloc (.cells ([.int .i64 p0, .int .i64 p1, .slice a3 L.length c3] : List Value).toArray 44) |>.drew
    replace Fz := (Fz.below hb3).alloc (.cells ([.int .i64 p0, .int .i64 p1, .slice a3 L.length c3] : List Value).toArray 44) |>.drew
    have hb4 : Below w.heap.size w w3 := bl_step hb3 hbW.size hbW
    replace hOw := (hOw.below ((Below.refl _ _).alloc (Nat.le_refl _) (.cells ([.int .i64 p0, .int .i64 p1, .slice a3 L.length c3] : List Value).toArray 44))).below (Below.refl _ _).drew
    have Bt := Bx.new w3 [.int .i64 p0, .int .i64 p1, .slice a3 L.length c3] 44
    have hz3 := hb3.size
    simp only [World.size_alloc] at hz3
    clear hb3
    go_wp2_with fail
    refine restS_begin (SB w w3.heap.size [.int .i64 p0, .int .i64 p1, .slice a3 L.length c3]) (by kernel_rfl) (SB.start (hb4.alloc hb4.size _) Bt) ?_
    refine restS_take (v := ?_) 0 rfl (by kernel_rfl) (by kernel_rfl) (by kernel_rfl) (fun _ _ _ h => h) (by rfl) ?_ ?_
    rotate_left
    · intro w9 h9; obtain ⟨h8, h9⟩ := h9; obtain ⟨x9, rfl⟩ := later_of h8; replace h9 := h9.2; clear h8
      go_simp; try with_reducible rfl
    try simp only [Act.put, List.setIfInBounds_toArray, List.set_cons_zero, List.set_cons_succ]
    refine restS_take (v := ?_) 1 rfl (by kernel_rfl) (by kernel_rfl) (by kernel_rfl) (fun _ _ _ h => h) (by rfl) ?_ ?_
    rotate_left
    · intro w9 h9; try dsimp only at h9
      go_split_ands
      go_simp; try with_reducible rfl
    try simp only [Act.put, List.setIfInBounds_toArray, List.set_cons_zero, List.set_cons_succ]
    refine restS_alone 2 rfl (by kernel_rfl) (by rfl) (fun hS K hK => ?_)
    go_wp2_with fail
    rw [run_method_direct (f := 197)]
    rotate_left
    · kernel_rfl
    go_wp2_with fail
    refine (c_Feed_valid _ _ _ _ _ _ hOw.read).mono ?_
    rintro e w5 ⟨rfl, hb5⟩
    go_wp2_with fail
    have hS2 := SB.step hS hb5
    replace Bz := Bz.below hb5
    replace By := By.below hb5
    replace Fz := Fz.below hb5
    replace hOw := hOw.below hb5
    clear hb5
    refine hK.out _ _ hS2 ?_
    try simp only [Act.put, List.setIfInBounds_toArray, List.set_cons_zero, List.set_cons_succ]
    clear hK K hS hS2
    refine restS_take (v := ?_) 3 rfl (by kernel_rfl) (by kernel_rfl) (by kernel_rfl) (fun _ _ _ h => h) (by rfl) ?_ ?_
    rotate_left
    · intro w9 h9; try dsimp only at h9
      go_split_ands
      go_simp; try with_reducible rfl
    try simp only [Act.put, List.setIfInBounds_toArray, List.set_cons_zero, List.set_cons_succ]
    refine restS_take (v := ?_) 4 rfl (by kernel_rfl) (by kernel_rfl) (by kernel_rfl) (fun _ _ _ h => h) (by rfl) ?_ ?_
    rotate_left
    · intro w9 h9; try dsimp only at h9
      go_split_ands
      go_simp; try with_reducible rfl
    try simp only [Act.put, List.setIfInBounds_toArray, List.set_cons_zero, List.set_cons_succ]
    refine restS_skip 5 rfl (by kernel_rfl) (by kernel_rfl) (by kernel_rfl) (fun _ _ _ h => h) (by rfl) ?_
    try simp only [Act.put, List.setIfInBounds_toArray, List.set_cons_zero, List.set_cons_succ]
    refine restS_skip 6 rfl (by kernel_rfl) (by kernel_rfl) (by kernel_rfl) (fun _ _ _ h => h) (by rfl) ?_
    try simp only [Act.put, List.setIfInBounds_toArray, List.set_cons_zero, List.set_cons_succ]
    refine restS_skip 7 rfl (by kernel_rfl) (by kernel_rfl) (by kernel_rfl) (fun _ _ _ h => h) (by rfl) ?_
    try simp only [Act.put, List.setIfInBounds_toArray, List.set_cons_zero, List.set_cons_succ]
    refine restS_skip 8 rfl (by kernel_rfl) (by kernel_rfl) (by kernel_rfl) (fun _ _ _ h => h) (by rfl) ?_
    try simp only [Act.put, List.setIfInBounds_toArray, List.set_cons_zero, List.set_cons_succ]
    refine restS_skip 9 rfl (by kernel_rfl) (by kernel_rfl) (by kernel_rfl) (fun _ _ _ h => h) (by rfl) ?_
    try simp only [Act.put, List.setIfInBounds_toArray, List.set_cons_zero, List.set_cons_succ]
    refine restS_skip 10 rfl (by kernel_rfl) (by kernel_rfl) (by kernel_rfl) (fun _ _ _ h => h) (by rfl) ?_
    try simp only [Act.put, List.setIfInBounds_toArray, List.set_cons_zero, List.set_cons_succ]
    refine restS_skip 11 rfl (by kernel_rfl) (by kernel_rfl) (by kernel_rfl) (fun _ _ _ h => h) (by rfl) ?_
    try simp only [Act.put, List.setIfInBounds_toArray, List.set_cons_zero, List.set_cons_succ]
    refine restS_take (v := ?_) 12 rfl (by kernel_rfl) (by kernel_rfl) (by kernel_rfl) (fun _ _ _ h => h) (by rfl) ?_ ?_
    rotate_left
    · intro w9 h9; try dsimp only at h9
      go_split_ands
      go_simp; try with_reducible rfl
    try simp only [Act.put, List.setIfInBounds_toArray, List.set_cons_zero, List.set_cons_succ]
    refine restS_done (by kernel_rfl) (fun hS => ?_)
    have hj := Hj.out
    have q0 := Bz.2
    have q1 := By.2
    have q2 := hS.2.2
    have q3 := Fz.2
    have hbB := hS.1
    clear hS
    go_wp2_with fail
    refine bodyPost_ret (v := .tuple #[.agg #[.int .i64 0, .int .i64 0, .slice none 0 0], .bool false]) (by simp [results, Try.results140, go_sem, *]) rfl (retRowFeed_no hj ?_)
    (repeat (first | with_reducible exact Below.refl _ _ | ((with_reducible refine bl_alloc ?_ ?_); (focus (first | (simp; done) | (simp; omega) | omega))) | ((with_reducible refine bl_set ?_ ?_); (focus (first | (simp; done) | (simp; omega) | omega))) | ((with_reducible refine bl_later ?_ ?_); (focus (first | (simp; done) | (simp; omega) | omega))) | with_reducible refine bl_drew ?_ | with_reducible refine bl_drewN ?_ | ((with_reducible refine bl_step (by assumption) ?_ ?_); (focus (first | (simp; done) | (simp; omega) | omega)))))
  · rw [hE] at hOkE
    have HL : Hid (L = chunk9 r) := by show L = _; rw [hL]; exact map_fix (feedOk_all hE)
    have hsame : (fieldsFeed p0 p1 L == p0 :: p1 :: r) = decide (r.length % 9 = 0) := by rw [HL.out]; exact feed_fields_eq
    clear hL
    cases hev : decide (r.length % 9 = 0)
    · rw [hev] at hsame
      have Hj : Hid (isFeed l = false) := by show isFeed l = _; rw [Hl.out]; simp only [isFeed, hev]; simp
      go_enter Try.func140, Try.ntmps140
      go_wp2_with (go_at_call 90; refine (c_impl_KindOf _ _ l _ (h' _ (by (repeat (first | with_reducible exact Below.refl _ _ | ((with_reducible refine bl_alloc ?_ ?_); (focus (first | (simp; done) | (simp; omega) | omega))) | ((with_reducible refine bl_set ?_ ?_); (focus (first | (simp; done) | (simp; omega) | omega))) | ((with_reducible refine bl_later ?_ ?_); (focus (first | (simp; done) | (simp; omega) | omega))) | with_reducible refine bl_drew ?_ | with_reducible refine bl_drewN ?_ | ((with_reducible refine bl_step (by assumption) ?_ ?_); (focus (first | (simp; done) | (simp; omega) | omega)))))))).mono ?_; rintro e w' ⟨rfl, rfl⟩)
      go_wp2_with fail
      have hbW : Below w.heap.size w ((w.alloc (.cells ([.int .i64 0, .int .i64 0, .slice none 0 0] : List Value).toArray 44)).alloc (.cells ([.int .i64 0, .int .i64 0, .slice none 0 0] : List Value).toArray 44)) := by (repeat (first | with_reducible exact Below.refl _ _ | ((with_reducible refine bl_alloc ?_ ?_); (focus (first | (simp; done) | (simp; omega) | omega))) | ((with_reducible refine bl_set ?_ ?_); (focus (first | (simp; done) | (simp; omega) | omega))) | ((with_reducible refine bl_later ?_ ?_); (focus (first | (simp; done) | (simp; omega) | omega))) | with_reducible refine bl_drew ?_ | with_reducible refine bl_drewN ?_ | ((with_reducible refine bl_step (by assumption) ?_ ?_); (focus (first | (simp; done) | (simp; omega) | omega)))))
      have Bz := (Bx.new w [.int .i64 0, .int .i64 0, .slice none 0 0] 44).alloc (.cells ([.int .i64 0, .int .i64 0, .slice none 0 0] : List Value).toArray 44)
      have By := Bx.new (w.alloc (.cells ([.int .i64 0, .int .i64 0, .slice none 0 0] : List Value).toArray 44)) [.int .i64 0, .int .i64 0, .slice none 0 0] 44
      rw [World.size_alloc] at By
      have Fz := (Fx.new w [.int .i64 0, .int .i64 0, .slice none 0 0] 44).alloc (.cells ([.int .i64 0, .int .i64 0, .slice none 0 0] : List Value).toArray 44)
      have hR := HR3.out
      refine (KC.out _ (hR.below hbW)).mono ?_
      rintro e w3 ⟨a3, c3, rfl, hOw, hb3⟩
      simp only [World.size_alloc] at hOw
      replace Bz := (Bz.below hb3).alloc (.cells ([.int .i64 p0, .int .i64 p1, .slice a3 L.length c3] : List Value).toArray 44) |>.drew
      replace By := (By.below hb3).alloc (.cells ([.int .i64 p0, .int .i64 p1, .slice a3 L.length c3] : List Value).toArray 44) |>.drew
      replace Fz := (Fz.below hb3).alloc (.cells ([.int .i64 p0, .int .i64 p1, .slice a3 L.length c3] : List Value).toArray 44) |>.drew
      have hb4 : Below w.heap.size w w3 := bl_step hb3 hbW.size hbW
      replace hOw := (hOw.below ((Below.refl _ _).alloc (Nat.le_refl _) (.cells ([.int .i64 p0, .int .i64 p1, .slice a3 L.length c3] : List Value).toArray 44))).below (Below.refl _ _).drew
      have Bt := Bx.new w3 [.int .i64 p0, .int .i64 p1, .slice a3 L.length c3] 44
      have hz3 := hb3.size
      simp only [World.size_alloc] at hz3
      clear hb3
      go_wp2_with fail
      refine restS_begin (SB w w3.heap.size [.int .i64 p0, .int .i64 p1, .slice a3 L.length c3]) (by kernel_rfl) (SB.start (hb4.alloc hb4.size _) Bt) ?_
      refine restS_take (v := ?_) 0 rfl (by kernel_rfl) (by kernel_rfl) (by kernel_rfl) (fun _ _ _ h => h) (by rfl) ?_ ?_
      rotate_left
      · intro w9 h9; obtain ⟨h8, h9⟩ := h9; obtain ⟨x9, rfl⟩ := later_of h8; replace h9 := h9.2; clear h8
        go_simp; try with_reducible rfl
      try simp only [Act.put, List.setIfInBounds_toArray, List.set_cons_zero, List.set_cons_succ]
      refine restS_take (v := ?_) 1 rfl (by kernel_rfl) (by kernel_rfl) (by kernel_rfl) (fun _ _ _ h => h) (by rfl) ?_ ?_
      rotate_left
      · intro w9 h9; try dsimp only at h9
        go_split_ands
        go_simp; try with_reducible rfl
      try simp only [Act.put, List.setIfInBounds_toArray, List.set_cons_zero, List.set_cons_succ]
      refine restS_alone 2 rfl (by kernel_rfl) (by rfl) (fun hS K hK => ?_)
      go_wp2_with fail
      rw [run_method_direct (f := 197)]
      rotate_left
      · kernel_rfl
      go_wp2_with fail
      refine (c_Feed_valid _ _ _ _ _ _ hOw.read).mono ?_
      rintro e w5 ⟨rfl, hb5⟩
      go_wp2_with fail
      have hS2 := SB.step hS hb5
      replace Bz := Bz.below hb5
      replace By := By.below hb5
      replace Fz := Fz.below hb5
      replace hOw := hOw.below hb5
      clear hb5
      refine hK.out _ _ hS2 ?_
      try simp only [Act.put, List.setIfInBounds_toArray, List.set_cons_zero, List.set_cons_succ]
      clear hK K hS hS2
      refine restS_take (v := ?_) 3 rfl (by kernel_rfl) (by kernel_rfl) (by kernel_rfl) (fun _ _ _ h => h) (by rfl) ?_ ?_
      rotate_left
      · intro w9 h9; try dsimp only at h9
        go_split_ands
        go_simp; try with_reducible rfl
      try simp only [Act.put, List.setIfInBounds_toArray, List.set_cons_zero, List.set_cons_succ]
      refine restS_take (v := ?_) 4 rfl (by kernel_rfl) (by kernel_rfl) (by kernel_rfl) (fun _ _ _ h => h) (by rfl) ?_ ?_
      rotate_left
      · intro w9 h9; try dsimp only at h9
        go_split_ands
        go_simp; try with_reducible rfl
      try simp only [Act.put, List.setIfInBounds_toArray, List.set_cons_zero, List.set_cons_succ]
      refine restS_take (v := ?_) 5 rfl (by kernel_rfl) (by kernel_rfl) (by kernel_rfl) (fun _ _ _ h => h) (by rfl) ?_ ?_
      rotate_left
      · intro w9 h9; obtain ⟨h8, h9⟩ := h9; obtain ⟨x9, rfl⟩ := later_of h8; replace h9 := h9.2; clear h8
        go_simp; try with_reducible rfl
      try simp only [Act.put, List.setIfInBounds_toArray, List.set_cons_zero, List.set_cons_succ]
      refine restS_take (v := ?_) 6 rfl (by kernel_rfl) (by kernel_rfl) (by kernel_rfl) (fun _ _ _ h => h) (by rfl) ?_ ?_
      rotate_left
      · intro w9 h9; try dsimp only at h9
        go_split_ands
        go_simp; try with_reducible rfl
      try simp only [Act.put, List.setIfInBounds_toArray, List.set_cons_zero, List.set_cons_succ]
      refine restS_take (v := ?_) 8 rfl (by kernel_rfl) (by kernel_rfl) (by kernel_rfl) (fun _ _ _ h => h) (by rfl) ?_ ?_
      rotate_left
      · intro w9 h9; try dsimp only at h9
        go_split_ands
        go_simp; try with_reducible rfl
      try simp only [Act.put, List.setIfInBounds_toArray, List.set_cons_zero, List.set_cons_succ]
      refine restS_take (v := ?_) 9 rfl (by kernel_rfl) (by kernel_rfl) (by kernel_rfl) (fun _ _ _ h => h) (by rfl) ?_ ?_
      rotate_left
      · intro w9 h9; try dsimp only at h9
        go_split_ands
        go_simp; try with_reducible rfl
      try simp only [Act.put, List.setIfInBounds_toArray, List.set_cons_zero, List.set_cons_succ]
      refine restS_alone 7 rfl (by kernel_rfl) (by rfl) (fun hS K hK => ?_)
      go_wp2_with fail
      rw [run_method_direct (f := 196)]
      rotate_left
      · kernel_rfl
      go_wp2_with fail
      refine (c_Feed_fields _ _ _ _ _ _ (hR.1 _ (by simp)) (hR.1 _ (by simp)) hOw.read hsd).mono ?_
      rintro e w6 ⟨a6, c6, rfl, ho6, hb6⟩
      go_wp2_with fail
      have hS2 := SB.step hS hb6
      replace Bz := Bz.below hb6
      replace By := By.below hb6
      replace Fz := Fz.below hb6
      replace hOw := hOw.below hb6
      clear hb6
      refine hK.out _ _ hS2 ?_
      try simp only [Act.put, List.setIfInBounds_toArray, List.set_cons_zero, List.set_cons_succ]
      clear hK K hS hS2
      refine restS_alone 10 rfl (by kernel_rfl) (by rfl) (fun hS K hK => ?_)
      go_wp2_with fail
      refine (c_SameRow _ _ _ _ (fieldsFeed p0 p1 L) (p0 :: p1 :: r) _ ho6.read (hR.below hS.1)).mono ?_
      rintro e w7 ⟨rfl, hb7⟩
      rw [hsame]
      go_wp2_with fail
      have hS2 := SB.step hS hb7
      replace Bz := Bz.below hb7
      replace By := By.below hb7
      replace Fz := Fz.below hb7
      replace hOw := hOw.below hb7
      clear hb7
      refine hK.out _ _ hS2 ?_
      try simp only [Act.put, List.setIfInBounds_toArray, List.set_cons_zero, List.set_cons_succ]
      clear hK K hS hS2
      refine restS_take (v := ?_) 11 rfl (by kernel_rfl) (by kernel_rfl) (by kernel_rfl) (fun _ _ _ h => h) (by rfl) ?_ ?_
      rotate_left
      · intro w9 h9; try dsimp only at h9
        go_split_ands
        go_simp; try with_reducible rfl
      try simp only [Act.put, List.setIfInBounds_toArray, List.set_cons_zero, List.set_cons_succ]
      refine restS_take (v := ?_) 12 rfl (by kernel_rfl) (by kernel_rfl) (by kernel_rfl) (fun _ _ _ h => h) (by rfl) ?_ ?_
      rotate_left
      · intro w9 h9; try dsimp only at h9
        go_split_ands
        go_simp; try with_reducible rfl
      try simp only [Act.put, List.setIfInBounds_toArray, List.set_cons_zero, List.set_cons_succ]
      refine restS_done (by kernel_rfl) (fun hS => ?_)
      have hj := Hj.out
      have q0 := Bz.2
      have q1 := By.2
      have q2 := hS.2.2
      have q3 := Fz.2
      have hbB := hS.1
      clear hS
      go_wp2_with fail
      refine bodyPost_ret (v := .tuple #[.agg #[.int .i64 0, .int .i64 0, .slice none 0 0], .bool false]) (by simp [results, Try.results140, go_sem, *]) rfl (retRowFeed_no hj ?_)
      (repeat (first | with_reducible exact Below.refl _ _ | ((with_reducible refine bl_alloc ?_ ?_); (focus (first | (simp; done) | (simp; omega) | omega))) | ((with_reducible refine bl_set ?_ ?_); (focus (first | (simp; done) | (simp; omega) | omega))) | ((with_reducible refine bl_later ?_ ?_); (focus (first | (simp; done) | (simp; omega) | omega))) | with_reducible refine bl_drew ?_ | with_reducible refine bl_drewN ?_ | ((with_reducible refine bl_step (by assumption) ?_ ?_); (focus (first | (simp; done) | (simp; omega) | omega)))))
    · rw [hev] at hsame
      have Hj : Hid (isFeed (4 :: p0 :: p1 :: r) = true) := by show isFeed _ = _; simp only [isFeed, hev, hE]; simp [hlr]
      go_enter Try.func140, Try.ntmps140
      go_wp2_with (go_at_call 90; refine (c_impl_KindOf _ _ l _ (h' _ (by (repeat (first | with_reducible exact Below.refl _ _ | ((with_reducible refine bl_alloc ?_ ?_); (focus (first | (simp; done) | (simp; omega) | omega))) | ((with_reducible refine bl_set ?_ ?_); (focus (first | (simp; done) | (simp; omega) | omega))) | ((with_reducible refine bl_later ?_ ?_); (focus (first | (simp; done) | (simp; omega) | omega))) | with_reducible refine bl_drew ?_ | with_reducible refine bl_drewN ?_ | ((with_reducible refine bl_step (by assumption) ?_ ?_); (focus (first | (simp; done) | (simp; omega) | omega)))))))).mono ?_; rintro e w' ⟨rfl, rfl⟩)
      go_wp2_with fail
      have hbW : Below w.heap.size w ((w.alloc (.cells ([.int .i64 0, .int .i64 0, .slice none 0 0] : List Value).toArray 44)).alloc (.cells ([.int .i64 0, .int .i64 0, .slice none 0 0] : List Value).toArray 44)) := by (repeat (first | with_reducible exact Below.refl _ _ | ((with_reducible refine bl_alloc ?_ ?_); (focus (first | (simp; done) | (simp; omega) | omega))) | ((with_reducible refine bl_set ?_ ?_); (focus (first | (simp; done) | (simp; omega) | omega))) | ((with_reducible refine bl_later ?_ ?_); (focus (first | (simp; done) | (simp; omega) | omega))) | with_reducible refine bl_drew ?_ | with_reducible refine bl_drewN ?_ | ((with_reducible refine bl_step (by assumption) ?_ ?_); (focus (first | (simp; done) | (simp; omega) | omega)))))
      have Bz := (Bx.new w [.int .i64 0, .int .i64 0, .slice none 0 0] 44).alloc (.cells ([.int .i64 0, .int .i64 0, .slice none 0 0] : List Value).toArray 44)
      have By := Bx.new (w.alloc (.cells ([.int .i64 0, .int .i64 0, .slice none 0 0] : List Value).toArray 44)) [.int .i64 0, .int .i64 0, .slice none 0 0] 44
      rw [World.size_alloc] at By
      have Fz := (Fx.new w [.int .i64 0, .int .i64 0, .slice none 0 0] 44).alloc (.cells ([.int .i64 0, .int .i64 0, .slice none 0 0] : List Value).toArray 44)
      have hR := HR3.out
      refine (KC.out _ (hR.below hbW)).mono ?_
      rintro e w3 ⟨a3, c3, rfl, hOw, hb3⟩
      simp only [World.size_alloc] at hOw
      replace Bz := (Bz.below hb3).alloc (.cells ([.int .i64 p0, .int .i64 p1, .slice a3 L.length c3] : List Value).toArray 44) |>.drew
      replace By := (By.below hb3).alloc (.cells ([.int .i64 p0, .int .i64 p1, .slice a3 L.length c3] : List Value).toArray 44) |>.drew
      replace Fz := (Fz.below hb3).alloc (.cells ([.int .i64 p0, .int .i64 p1, .slice a3 L.length c3] : List Value).toArray 44) |>.drew
      have hb4 : Below w.heap.size w w3 := bl_step hb3 hbW.size hbW
      replace hOw := (hOw.below ((Below.refl _ _).alloc (Nat.le_refl _) (.cells ([.int .i64 p0, .int .i64 p1, .slice a3 L.length c3] : List Value).toArray 44))).below (Below.refl _ _).drew
      have Bt := Bx.new w3 [.int .i64 p0, .int .i64 p1, .slice a3 L.length c3] 44
      have hz3 := hb3.size
      simp only [World.size_alloc] at hz3
      clear hb3
      go_wp2_with fail
      refine restS_begin (SB w w3.heap.size [.int .i64 p0, .int .i64 p1, .slice a3 L.length c3]) (by kernel_rfl) (SB.start (hb4.alloc hb4.size _) Bt) ?_
      refine restS_take (v := ?_) 0 rfl (by kernel_rfl) (by kernel_rfl) (by kernel_rfl) (fun _ _ _ h => h) (by rfl) ?_ ?_
      rotate_left
      · intro w9 h9; obtain ⟨h8, h9⟩ := h9; obtain ⟨x9, rfl⟩ := later_of h8; replace h9 := h9.2; clear h8
        go_simp; try with_reducible rfl
      try simp only [Act.put, List.setIfInBounds_toArray, List.set_cons_zero, List.set_cons_succ]
      refine restS_take (v := ?_) 1 rfl (by kernel_rfl) (by kernel_rfl) (by kernel_rfl) (fun _ _ _ h => h) (by rfl) ?_ ?_
      rotate_left
      · intro w9 h9; try dsimp only at h9
        go_split_ands
        go_simp; try with_reducible rfl
      try simp only [Act.put, List.setIfInBounds_toArray, List.set_cons_zero, List.set_cons_succ]
      refine restS_alone 2 rfl (by kernel_rfl) (by rfl) (fun hS K hK => ?_)
      go_wp2_with fail
      rw [run_method_direct (f := 197)]
      rotate_left
      · kernel_rfl
      go_wp2_with fail
      refine (c_Feed_valid _ _ _ _ _ _ hOw.read).mono ?_
      rintro e w5 ⟨rfl, hb5⟩
      go_wp2_with fail
      have hS2 := SB.step hS hb5
      replace Bz := Bz.below hb5
      replace By := By.below hb5
      replace Fz := Fz.below hb5
      replace hOw := hOw.below hb5
      clear hb5
      refine hK.out _ _ hS2 ?_
      try simp only [Act.put, List.setIfInBounds_toArray, List.set_cons_zero, List.set_cons_succ]
      clear hK K hS hS2
      refine restS_take (v := ?_) 3 rfl (by kernel_rfl) (by kernel_rfl) (by kernel_rfl) (fun _ _ _ h => h) (by rfl) ?_ ?_
      rotate_left
      · intro w9 h9; try dsimp only at h9
        go_split_ands
        go_simp; try with_reducible rfl
      try simp only [Act.put, List.setIfInBounds_toArray, List.set_cons_zero, List.set_cons_succ]
      refine restS_take (v := ?_) 4 rfl (by kernel_rfl) (by kernel_rfl) (by kernel_rfl) (fun _ _ _ h => h) (by rfl) ?_ ?_
      rotate_left
      · intro w9 h9; try dsimp only at h9
        go_split_ands
        go_simp; try with_reducible rfl
      try simp only [Act.put, List.setIfInBounds_toArray, List.set_cons_zero, List.set_cons_succ]
      refine restS_take (v := ?_) 5 rfl (by kernel_rfl) (by kernel_rfl) (by kernel_rfl) (fun _ _ _ h => h) (by rfl) ?_ ?_
      rotate_left
      · intro w9 h9; obtain ⟨h8, h9⟩ := h9; obtain ⟨x9, rfl⟩ := later_of h8; replace h9 := h9.2; clear h8
        go_simp; try with_reducible rfl
      try simp only [Act.put, List.setIfInBounds_toArray, List.set_cons_zero, List.set_cons_succ]
      refine restS_take (v := ?_) 6 rfl (by kernel_rfl) (by kernel_rfl) (by kernel_rfl) (fun _ _ _ h => h) (by rfl) ?_ ?_
      rotate_left
      · intro w9 h9; try dsimp only at h9
        go_split_ands
        go_simp; try with_reducible rfl
      try simp only [Act.put, List.setIfInBounds_toArray, List.set_cons_zero, List.set_cons_succ]
      refine restS_take (v := ?_) 8 rfl (by kernel_rfl) (by kernel_rfl) (by kernel_rfl) (fun _ _ _ h => h) (by rfl) ?_ ?_
      rotate_left
      · intro w9 h9; try dsimp only at h9
        go_split_ands
        go_simp; try with_reducible rfl
      try simp only [Act.put, List.setIfInBounds_toArray, List.set_cons_zero, List.set_cons_succ]
      refine restS_take (v := ?_) 9 rfl (by kernel_rfl) (by kernel_rfl) (by kernel_rfl) (fun _ _ _ h => h) (by rfl) ?_ ?_
      rotate_left
      · intro w9 h9; try dsimp only at h9
        go_split_ands
        go_simp; try with_reducible rfl
      try simp only [Act.put, List.setIfInBounds_toArray, List.set_cons_zero, List.set_cons_succ]
      refine restS_alone 7 rfl (by kernel_rfl) (by rfl) (fun hS K hK => ?_)
      go_wp2_with fail
      rw [run_method_direct (f := 196)]
      rotate_left
      · kernel_rfl
      go_wp2_with fail
      refine (c_Feed_fields _ _ _ _ _ _ (hR.1 _ (by simp)) (hR.1 _ (by simp)) hOw.read hsd).mono ?_
      rintro e w6 ⟨a6, c6, rfl, ho6, hb6⟩
      go_wp2_with fail
      have hS2 := SB.step hS hb6
      replace Bz := Bz.below hb6
      replace By := By.below hb6
      replace Fz := Fz.below hb6
      replace hOw := hOw.below hb6
      clear hb6
      refine hK.out _ _ hS2 ?_
      try simp only [Act.put, List.setIfInBounds_toArray, List.set_cons_zero, List.set_cons_succ]
      clear hK K hS hS2
      refine restS_alone 10 rfl (by kernel_rfl) (by rfl) (fun hS K hK => ?_)
      go_wp2_with fail
      refine (c_SameRow _ _ _ _ (fieldsFeed p0 p1 L) (p0 :: p1 :: r) _ ho6.read (hR.below hS.1)).mono ?_
      rintro e w7 ⟨rfl, hb7⟩
      rw [hsame]
      go_wp2_with fail
      have hS2 := SB.step hS hb7
      replace Bz := Bz.below hb7
      replace By := By.below hb7
      replace Fz := Fz.below hb7
      replace hOw := hOw.below hb7
      clear hb7
      refine hK.out _ _ hS2 ?_
      try simp only [Act.put, List.setIfInBounds_toArray, List.set_cons_zero, List.set_cons_succ]
      clear hK K hS hS2
      refine restS_take (v := ?_) 11 rfl (by kernel_rfl) (by kernel_rfl) (by kernel_rfl) (fun _ _ _ h => h) (by rfl) ?_ ?_
      rotate_left
      · intro w9 h9; try dsimp only at h9
        go_split_ands
        go_simp; try with_reducible rfl
      try simp only [Act.put, List.setIfInBounds_toArray, List.set_cons_zero, List.set_cons_succ]
      refine restS_take (v := ?_) 12 rfl (by kernel_rfl) (by kernel_rfl) (by kernel_rfl) (fun _ _ _ h => h) (by rfl) ?_ ?_
      rotate_left
      · intro w9 h9; try dsimp only at h9
        go_split_ands
        go_simp; try with_reducible rfl
      try simp only [Act.put, List.setIfInBounds_toArray, List.set_cons_zero, List.set_cons_succ]
      refine restS_done (by kernel_rfl) (fun hS => ?_)
      have hj := Hj.out
      have q0 := Bz.2
      have q1 := By.2
      have q2 := hS.2.2
      have q3 := Fz.2
      have hbB := hS.1
      clear hS
      go_wp2_with fail
      refine bodyPost_ret (v := .tuple #[.agg #[.int .i64 p0, .int .i64 p1, .slice a3 L.length c3], .bool true]) (by simp [results, Try.results140, go_sem, *]) rfl ?_
      rw [Hl.out]
      rw [HL.out] at hOw ⊢
      refine retRowFeed_yes hj ?_ (by (repeat (first | with_reducible exact Below.refl _ _ | ((with_reducible refine bl_alloc ?_ ?_); (focus (first | (simp; done) | (simp; omega) | omega))) | ((with_reducible refine bl_set ?_ ?_); (focus (first | (simp; done) | (simp; omega) | omega))) | ((with_reducible refine bl_later ?_ ?_); (focus (first | (simp; done) | (simp; omega) | omega))) | with_reducible refine bl_drew ?_ | with_reducible refine bl_drewN ?_ | ((with_reducible refine bl_step (by assumption) ?_ ?_); (focus (first | (simp; done) | (simp; omega) | omega))))))
      refine OwnA.weak (lo := w.heap.size + 1 + 1) (by omega) ?_
      repeat (first | ((with_reducible refine OwnA.set ?_ ?_); (focus (first | (simp; done) | (simp; omega) | omega))))
      exact hOw
theorem c_decoded_Feed (ao : Option Addr) (cap : Nat) (l : List Int) (w : World) (hh : IntsR w ao l) (hcap : l.length ≤ cap) : Calls Try.prog 140 #[.slice ao l.length cap, .int .i64 4, .int .i64 2, .int .i64 29, .func (Fn.func 141) #[] #[]] w (RetRowFeed w l) := by
  cases hk : (kindOf l != 4)
  · by_cases h2 : l.length < 3 ∨ 30 < l.length
    · exact c_decoded_Feed_len ao cap l w hh hcap hk h2
    · obtain ⟨x0, p0, p1, r, e⟩ := three (l := l) (by omega)
      obtain ⟨hl0, hl1, hd⟩ := kindOf_pos hk (by omega)
      rw [e] at hd
      obtain rfl : x0 = 4 := by simpa using hd
      exact c_decoded_Feed_good ao cap l p0 p1 r w hh hcap e hk (by omega) (by omega)
  · exact c_decoded_Feed_bad ao cap l w hh hcap hk
theorem c_spec_RowFeed (ao : Option Addr) (cap : Nat) (l : List Int) (w : World) (hh : IntsR w ao l) (hcap : l.length ≤ cap) : Calls Try.prog 94 #[.slice ao l.length cap] w (RetRowFeed w l) := by
  by_cases hbad : l.length < 3 ∨ 30 < l.length ∨ l.length % 9 ≠ 3 ∨ l.headD 0 ≠ 4
  · have hj : isFeed l = false := by
      rcases hbad with h | h | h | h
      · exact isFeed_short h
      · exact isFeed_long h
      · exact isFeed_odd h
      · cases hj : isFeed l
        · rfl
        · exfalso
          by_cases h6 : l.length < 3
          · rw [isFeed_short h6] at hj; simp at hj
          · obtain ⟨x0, p0, p1, r, rfl⟩ := three (l := l) (by omega)
            simp only [isFeed, Bool.and_eq_true, beq_iff_eq] at hj
            exact h (by simp [hj.2.2.1])
    exact (c_spec_RowFeed_bad ao cap l w hh hbad).mono fun e w' ⟨he, hb⟩ => by rw [he]; exact retRowFeed_no hj hb
  · obtain ⟨x0, p0, p1, r, e⟩ := three (l := l) (by omega)
    have h9 : x0 = 4 := by
      have h7 : l.headD 0 = 4 := by omega
      rw [e] at h7; simpa using h7
    rw [h9] at e
    exact c_spec_RowFeed_shape ao cap l p0 p1 r w hh hcap e (by omega) (by omega) (by show _ = _; omega)
theorem c_impl_RowFeed (ao : Option Addr) (cap : Nat) (l : List Int) (w : World) (hh : IntsR w ao l) (hcap : l.length ≤ cap) : Calls Try.prog 85 #[.slice ao l.length cap] w (RetRowFeed w l) := by
  have key := c_decoded_Feed ao cap l (w.alloc (.cells ([.int .i64 0, .int .i64 0, .slice none 0 0] : List Value).toArray 44)) (hh.below (by (repeat (first | with_reducible exact Below.refl _ _ | ((with_reducible refine bl_alloc ?_ ?_); (focus (first | (simp; done) | (simp; omega) | omega))) | ((with_reducible refine bl_set ?_ ?_); (focus (first | (simp; done) | (simp; omega) | omega))) | ((with_reducible refine bl_later ?_ ?_); (focus (first | (simp; done) | (simp; omega) | omega))) | with_reducible refine bl_drew ?_ | with_reducible refine bl_drewN ?_ | ((with_reducible refine bl_step (by assumption) ?_ ?_); (focus (first | (simp; done) | (simp; omega) | omega))))))) hcap
  go_enter Try.func85, Try.ntmps85
  go_wp2_with fail
  refine key.mono ?_
  rintro e w1 ⟨a1, c1, rfl, ho1, hb⟩
  have q0 := ((Bx.new w [.int .i64 0, .int .i64 0, .slice none 0 0] 44).below hb).2
  have q1 := ((Fx.new w [.int .i64 0, .int .i64 0, .slice none 0 0] 44).below hb).2
  have hz := hb.size
  simp only [World.size_alloc] at hz ho1
  clear key
  go_wp2_with fail
  refine bodyPost_ret (v := .tuple #[.agg #[.int .i64 (feedHead l).1, .int .i64 (feedHead l).2, .slice a1 (feedOpen l).length c1], .bool (isFeed l)]) (by simp [results, Try.results85, go_sem, *]) rfl ⟨a1, c1, rfl, ?_, by (repeat (first | with_reducible exact Below.refl _ _ | ((with_reducible refine bl_alloc ?_ ?_); (focus (first | (simp; done) | (simp; omega) | omega))) | ((with_reducible refine bl_set ?_ ?_); (focus (first | (simp; done) | (simp; omega) | omega))) | ((with_reducible refine bl_later ?_ ?_); (focus (first | (simp; done) | (simp; omega) | omega))) | with_reducible refine bl_drew ?_ | with_reducible refine bl_drewN ?_ | ((with_reducible refine bl_step (by assumption) ?_ ?_); (focus (first | (simp; done) | (simp; omega) | omega)))))⟩
  refine OwnA.weak (lo := w.heap.size + 1) (by omega) ?_
  repeat (first | ((with_reducible refine OwnA.set ?_ ?_); (focus (first | (simp; done) | (simp; omega) | omega))))
  exact ho1

end Go.Proofs.Ytpfkfppooeikeaa
/- Walks of functions of the program, printed by a program of the prover. -/
namespace Go.Proofs.Ytpfkfppooeikeaa
open Go.ChangeShapes Go.WideShapes Go.ChangeAt Go.RowKit Go.Deep
set_option maxHeartbeats 1600000
set_option maxRecDepth 100000

def isJobs : List Int → Bool
  | x0 :: p0 :: p1 :: p2 :: p3 :: p4 :: r => decide (r.length ≤ 16) && (decide (r.length % 2 = 0) && ((x0 == 9) && jobsOk p0 p1 p2 p3 p4 (duesOf r)))
  | _ => false
def jobsHead0 : List Int → Int × Int × Int × Int × Int
  | _ :: p0 :: p1 :: p2 :: p3 :: p4 :: _ => (p0, p1, p2, p3, p4)
  | _ => (0, 0, 0, 0, 0)
def jobsHead (l : List Int) : Int × Int × Int × Int × Int := if isJobs l then jobsHead0 l else (0, 0, 0, 0, 0)
def jobsOpen (l : List Int) : List (Int × Int) := if isJobs l then duesOf (l.drop 6) else []
def RetRowJobs (w : World) (l : List Int) (e : Ending) (w' : World) : Prop :=
  ∃ (ao : Option Addr) (cap : Nat), e = .returned (.tuple #[.agg #[.int .i64 (jobsHead l).1, .int .i64 (jobsHead l).2.1, .int .i64 (jobsHead l).2.2.1, .int .i64 (jobsHead l).2.2.2.1, .int .i64 (jobsHead l).2.2.2.2, .slice ao (jobsOpen l).length cap], .bool (isJobs l)]) ∧
    OwnA dueE w' w.heap.size 113 (.slice ao (jobsOpen l).length cap) (jobsOpen l) ∧ Below w.heap.size w w'
theorem retRowJobs_no {w w' : World} {l : List Int} (h : isJobs l = false) (hb : Below w.heap.size w w') : RetRowJobs w l (.returned (.tuple #[.agg #[.int .i64 0, .int .i64 0, .int .i64 0, .int .i64 0, .int .i64 0, .slice none 0 0], .bool false])) w' := by
  have e1 : jobsHead l = (0, 0, 0, 0, 0) := by simp [jobsHead, h]
  have e2 : jobsOpen l = [] := by simp [jobsOpen, h]
  refine ⟨none, 0, by rw [e1, e2, h]; rfl, ?_, hb⟩
  rw [e2]
  exact ownA_nil _ _ _ _
theorem retRowJobs_yes {w w' : World} {x0 p0 p1 p2 p3 p4 : Int} {r : List Int} {ao : Option Addr} {cap : Nat} (h : isJobs (x0 :: p0 :: p1 :: p2 :: p3 :: p4 :: r) = true) (ho : OwnA dueE w' w.heap.size 113 (.slice ao (duesOf r).length cap) (duesOf r)) (hb : Below w.heap.size w w') :
    RetRowJobs w (x0 :: p0 :: p1 :: p2 :: p3 :: p4 :: r) (.returned (.tuple #[.agg #[.int .i64 p0, .int .i64 p1, .int .i64 p2, .int .i64 p3, .int .i64 p4, .slice ao (duesOf r).length cap], .bool true])) w' := by
  have e1 : jobsHead (x0 :: p0 :: p1 :: p2 :: p3 :: p4 :: r) = (p0, p1, p2, p3, p4) := by simp [jobsHead, jobsHead0, h]
  have e2 : jobsOpen (x0 :: p0 :: p1 :: p2 :: p3 :: p4 :: r) = duesOf r := by simp [jobsOpen, h]
  refine ⟨ao, cap, by rw [e1, e2, h], ?_, hb⟩
  rw [e2]
  exact ho
theorem isJobs_short {l : List Int} (h : l.length < 6) : isJobs l = false := by
  match l, h with
  | [], _ => rfl
  | [_], _ => rfl
  | [_, _], _ => rfl
  | [_, _, _], _ => rfl
  | [_, _, _, _], _ => rfl
  | [_, _, _, _, _], _ => rfl
  | _ :: _ :: _ :: _ :: _ :: _ :: _, h => simp at h; omega
theorem isJobs_long {l : List Int} (h : 22 < l.length) : isJobs l = false := by
  match l, h with
  | _ :: _ :: _ :: _ :: _ :: _ :: r, h =>
    have : decide (r.length ≤ 16) = false := by simp at h ⊢; omega
    simp [isJobs, this]
  | [], h => simp at h
  | [_], h => simp at h
  | [_, _], h => simp at h
  | [_, _, _], h => simp at h
  | [_, _, _, _], h => simp at h
  | [_, _, _, _, _], h => simp at h
theorem isJobs_odd {l : List Int} (h : l.length % 2 ≠ 0) : isJobs l = false := by
  by_cases h6 : l.length < 6
  · exact isJobs_short h6
  · match l, h, h6 with
    | _ :: _ :: _ :: _ :: _ :: _ :: r, h, _ =>
      have : decide (r.length % 2 = 0) = false := by simp at h ⊢; omega
      simp [isJobs, this]
    | [], _, h6 => simp at h6
    | [_], _, h6 => simp at h6
    | [_, _], _, h6 => simp at h6
    | [_, _, _], _, h6 => simp at h6
    | [_, _, _, _], _, h6 => simp at h6
    | [_, _, _, _, _], _, h6 => simp at h6
theorem headD_eq {l : List Int} (h : 0 < l.length) : l.headD 0 = l[0] := by
  cases l with
  | nil => simp at h
  | cons x r => rfl
theorem six {l : List Int} (h : 6 ≤ l.length) : ∃ x0 p0 p1 p2 p3 p4 r, l = x0 :: p0 :: p1 :: p2 :: p3 :: p4 :: r := by
  match l, h with
  | x0 :: p0 :: p1 :: p2 :: p3 :: p4 :: r, _ => exact ⟨x0, p0, p1, p2, p3, p4, r, rfl⟩
  | [], h => simp at h
  | [_], h => simp at h
  | [_, _], h => simp at h
  | [_, _, _], h => simp at h
  | [_, _, _, _], h => simp at h
  | [_, _, _, _, _], h => simp at h
theorem c_spec_RowJobs_bad (ao : Option Addr) (cap : Nat) (l : List Int) (w : World) (hh : IntsR w ao l) (hbad : l.length < 6 ∨ 22 < l.length ∨ l.length % 2 ≠ 0 ∨ l.headD 0 ≠ 9) :
    Calls Try.prog 81 #[.slice ao l.length cap] w fun e w' => e = .returned (.tuple #[.agg #[.int .i64 0, .int .i64 0, .int .i64 0, .int .i64 0, .int .i64 0, .slice none 0 0], .bool false]) ∧ Below w.heap.size w w' := by
  have hm := hh.2.1
  by_cases h1 : l.length < 6
  · have e1 : decide ((l.length : Int) < 6) = true := by simp; omega
    go_enter Try.func81, Try.ntmps81
    go_wp2_with fail
    refine bodyPost_ret (v := .tuple #[.agg #[.int .i64 0, .int .i64 0, .int .i64 0, .int .i64 0, .int .i64 0, .slice none 0 0], .bool false]) (by simp [results, Try.results81, go_sem, *]) rfl ⟨rfl, ?_⟩
    (repeat (first | with_reducible exact Below.refl _ _ | ((with_reducible refine bl_alloc ?_ ?_); (focus (first | (simp; done) | (simp; omega) | omega))) | ((with_reducible refine bl_set ?_ ?_); (focus (first | (simp; done) | (simp; omega) | omega))) | ((with_reducible refine bl_later ?_ ?_); (focus (first | (simp; done) | (simp; omega) | omega))) | with_reducible refine bl_drew ?_ | with_reducible refine bl_drewN ?_ | ((with_reducible refine bl_step (by assumption) ?_ ?_); (focus (first | (simp; done) | (simp; omega) | omega)))))
  by_cases h2 : 22 < l.length
  · have e1 : decide ((l.length : Int) < 6) = false := by simp; omega
    have e2 : decide ((22 : Int) < (l.length : Int)) = true := by simp; omega
    go_enter Try.func81, Try.ntmps81
    go_wp2_with fail
    refine bodyPost_ret (v := .tuple #[.agg #[.int .i64 0, .int .i64 0, .int .i64 0, .int .i64 0, .int .i64 0, .slice none 0 0], .bool false]) (by simp [results, Try.results81, go_sem, *]) rfl ⟨rfl, ?_⟩
    (repeat (first | with_reducible exact Below.refl _ _ | ((with_reducible refine bl_alloc ?_ ?_); (focus (first | (simp; done) | (simp; omega) | omega))) | ((with_reducible refine bl_set ?_ ?_); (focus (first | (simp; done) | (simp; omega) | omega))) | ((with_reducible refine bl_later ?_ ?_); (focus (first | (simp; done) | (simp; omega) | omega))) | with_reducible refine bl_drew ?_ | with_reducible refine bl_drewN ?_ | ((with_reducible refine bl_step (by assumption) ?_ ?_); (focus (first | (simp; done) | (simp; omega) | omega)))))
  have hp : (0 : Int) < (l.length : Int) := by omega
  have h0l : 0 < l.length := by omega
  have e1 : decide ((l.length : Int) < 6) = false := by simp; omega
  have e2 : decide ((22 : Int) < (l.length : Int)) = false := by simp; omega
  by_cases h3 : l.length % 2 ≠ 0
  · have e3 : ((l.length : Int) % 2 != 0) = true := by simp only [bne_iff_ne, ne_eq]; omega
    have H3 := Lib.hid h3
    clear h3
    go_enter Try.func81, Try.ntmps81
    go_wp2_with fail
    refine bodyPost_ret (v := .tuple #[.agg #[.int .i64 0, .int .i64 0, .int .i64 0, .int .i64 0, .int .i64 0, .slice none 0 0], .bool false]) (by simp [results, Try.results81, go_sem, *]) rfl ⟨rfl, ?_⟩
    (repeat (first | with_reducible exact Below.refl _ _ | ((with_reducible refine bl_alloc ?_ ?_); (focus (first | (simp; done) | (simp; omega) | omega))) | ((with_reducible refine bl_set ?_ ?_); (focus (first | (simp; done) | (simp; omega) | omega))) | ((with_reducible refine bl_later ?_ ?_); (focus (first | (simp; done) | (simp; omega) | omega))) | with_reducible refine bl_drew ?_ | with_reducible refine bl_drewN ?_ | ((with_reducible refine bl_step (by assumption) ?_ ?_); (focus (first | (simp; done) | (simp; omega) | omega)))))
  have e3 : ((l.length : Int) % 2 != 0) = false := by simp only [bne_eq_false_iff_eq]; omega
  obtain ⟨b0, off, rfl, hbl, hr0, hc⟩ := hh.at (k := 0) h0l
  have k0 := hc 0 h0l
  have hd := headD_eq (l := l) h0l
  have e4 : (l[0] != 9) = true := by simp only [bne_iff_ne, ne_eq]; rw [← hd]; omega
  rw [Nat.add_zero] at k0
  have Hd := Lib.hid hd
  have H3 := Lib.hid h3
  clear hc hd hr0 h3 hbad
  have hbl1 : b0 < w.heap.size + 1 := by omega
  go_enter Try.func81, Try.ntmps81
  go_wp2_with fail
  refine bodyPost_ret (v := .tuple #[.agg #[.int .i64 0, .int .i64 0, .int .i64 0, .int .i64 0, .int .i64 0, .slice none 0 0], .bool false]) (by simp [results, Try.results81, go_sem, *]) rfl ⟨rfl, ?_⟩
  (repeat (first | with_reducible exact Below.refl _ _ | ((with_reducible refine bl_alloc ?_ ?_); (focus (first | (simp; done) | (simp; omega) | omega))) | ((with_reducible refine bl_set ?_ ?_); (focus (first | (simp; done) | (simp; omega) | omega))) | ((with_reducible refine bl_later ?_ ?_); (focus (first | (simp; done) | (simp; omega) | omega))) | with_reducible refine bl_drew ?_ | with_reducible refine bl_drewN ?_ | ((with_reducible refine bl_step (by assumption) ?_ ?_); (focus (first | (simp; done) | (simp; omega) | omega)))))
theorem c_spec_RowJobs_shape (ao : Option Addr) (cap : Nat) (l : List Int) (p0 p1 p2 p3 p4 : Int) (r : List Int) (w : World) (hh : IntsR w ao l) (Hl : Hid (l = 9 :: p0 :: p1 :: p2 :: p3 :: p4 :: r)) (hl6 : 6 ≤ l.length) (hl22 : l.length ≤ 22) (hev : Hid (l.length % 2 = 0)) :
    Calls Try.prog 81 #[.slice ao l.length cap] w (RetRowJobs w l) := by
  have hm := hh.2.1
  obtain ⟨j0, hj, hj0, hj1, hj2⟩ := info_parts info_Due
  have hlen : Hid (l.length = 6 + r.length) := by show l.length = _; rw [Hl.out]; simp; omega
  have hlr : r.length ≤ 16 := by have := hlen.out; omega
  have hh2 : IntsR w ao (9 :: p0 :: p1 :: p2 :: p3 :: p4 :: r) := Hl.out ▸ hh
  obtain ⟨b0, off, rfl, hbl, hr0, hc⟩ := hh2.at (k := 0) (by simp)
  have k0 := hc 0 (by simp)
  have k1 := hc 1 (by simp)
  have k2 := hc 2 (by simp)
  have k3 := hc 3 (by simp)
  have k4 := hc 4 (by simp)
  have k5 := hc 5 (by simp)
  have Hqs : Hid (∀ j x, r[j]? = some x → w.cell? ⟨b0, off + 6 + j, none⟩ = some (.int .i64 x)) := fun j x hj => by
    have hlt : j < r.length := (List.getElem?_eq_some_iff.1 hj).1
    have h7 := hc (j + 6) (by simp; omega)
    simp only [List.getElem_cons_succ] at h7
    rw [show off + 6 + j = off + (j + 6) by omega, h7]
    rw [List.getElem?_eq_getElem hlt] at hj
    simpa using hj
  have Hri : Hid (∀ x ∈ r, inI64 x) := fun x hx => hh2.1 x (by simp [hx])
  simp only [List.getElem_cons_zero, List.getElem_cons_succ, Nat.add_zero] at k0 k1 k2 k3 k4 k5
  have hbl1 : b0 < w.heap.size + 1 := by omega
  have hp0 : (0 : Int) < (l.length : Int) := by omega
  have hp1 : (1 : Int) < (l.length : Int) := by omega
  have hp2 : (2 : Int) < (l.length : Int) := by omega
  have hp3 : (3 : Int) < (l.length : Int) := by omega
  have hp4 : (4 : Int) < (l.length : Int) := by omega
  have hp5 : (5 : Int) < (l.length : Int) := by omega
  have e1 : decide ((l.length : Int) < 6) = false := by simp; omega
  have e2 : decide ((22 : Int) < (l.length : Int)) = false := by simp; omega
  have e3 : ((l.length : Int) % 2 != 0) = false := by have h7 := hev.out; simp only [bne_eq_false_iff_eq]; omega
  have hBz := ((Bx.new w [.int .i64 0, .int .i64 0, .int .i64 0, .int .i64 0, .int .i64 0, .slice none 0 0] 99).alloc (.cells ([.int .i64 p0, .int .i64 p1, .int .i64 p2, .int .i64 p3, .int .i64 p4, .slice none 0 0] : List Value).toArray 99)).drew
  have hFz := ((Fx.new w [.int .i64 0, .int .i64 0, .int .i64 0, .int .i64 0, .int .i64 0, .slice none 0 0] 99).alloc (.cells ([.int .i64 p0, .int .i64 p1, .int .i64 p2, .int .i64 p3, .int .i64 p4, .slice none 0 0] : List Value).toArray 99)).drew
  have hBx := (Bx.new (w.alloc (.cells ([.int .i64 0, .int .i64 0, .int .i64 0, .int .i64 0, .int .i64 0, .slice none 0 0] : List Value).toArray 99)) [.int .i64 p0, .int .i64 p1, .int .i64 p2, .int .i64 p3, .int .i64 p4, .slice none 0 0] 99).drew
  have hFx := (Fx.new (w.alloc (.cells ([.int .i64 0, .int .i64 0, .int .i64 0, .int .i64 0, .int .i64 0, .slice none 0 0] : List Value).toArray 99)) [.int .i64 p0, .int .i64 p1, .int .i64 p2, .int .i64 p3, .int .i64 p4, .slice none 0 0] 99).drew
  rw [World.size_alloc] at hBx hFx
  have HBz := Lib.hid hBz
  have HFz := Lib.hid hFz
  have HBx := Lib.hid hBx
  have HFx := Lib.hid hFx
  clear hBz hFz hBx hFx hc hh2 hr0
  go_enter Try.func81, Try.ntmps81
  go_wp2_with fail
  refine restS_begin (fun W => Below w.heap.size w W) (by kernel_rfl) (by (repeat (first | with_reducible exact Below.refl _ _ | ((with_reducible refine bl_alloc ?_ ?_); (focus (first | (simp; done) | (simp; omega) | omega))) | ((with_reducible refine bl_set ?_ ?_); (focus (first | (simp; done) | (simp; omega) | omega))) | ((with_reducible refine bl_later ?_ ?_); (focus (first | (simp; done) | (simp; omega) | omega))) | with_reducible refine bl_drew ?_ | with_reducible refine bl_drewN ?_ | ((with_reducible refine bl_step (by assumption) ?_ ?_); (focus (first | (simp; done) | (simp; omega) | omega)))))) ?_
  refine restS_take (v := ?_) 0 rfl (by kernel_rfl) (by kernel_rfl) (by kernel_rfl) (fun _ _ _ h => h) (by rfl) ?_ ?_
  rotate_left
  · intro w9 h9; try dsimp only at h9
    go_split_ands
    go_simp; try with_reducible rfl
  try simp only [Act.put, List.setIfInBounds_toArray, List.set_cons_zero, List.set_cons_succ]
  refine restS_take (v := ?_) 1 rfl (by kernel_rfl) (by kernel_rfl) (by kernel_rfl) (fun _ _ _ h => h) (by rfl) ?_ ?_
  rotate_left
  · intro w9 h9; try dsimp only at h9
    go_split_ands
    go_simp; try with_reducible rfl
  try simp only [Act.put, List.setIfInBounds_toArray, List.set_cons_zero, List.set_cons_succ]
  refine restS_take (v := ?_) 2 rfl (by kernel_rfl) (by kernel_rfl) (by kernel_rfl) (fun _ _ _ h => h) (by rfl) ?_ ?_
  rotate_left
  · intro w9 h9; try dsimp only at h9
    obtain ⟨x9, rfl⟩ := later_of h9
    go_simp; try with_reducible rfl
  try simp only [Act.put, List.setIfInBounds_toArray, List.set_cons_zero, List.set_cons_succ]
  refine restS_take (v := ?_) 3 rfl (by kernel_rfl) (by kernel_rfl) (by kernel_rfl) (fun _ _ _ h => h) (by rfl) ?_ ?_
  rotate_left
  · intro w9 h9; try dsimp only at h9
    go_split_ands
    go_simp; try with_reducible rfl
  try simp only [Act.put, List.setIfInBounds_toArray, List.set_cons_zero, List.set_cons_succ]
  refine restS_take (v := ?_) 4 rfl (by kernel_rfl) (by kernel_rfl) (by kernel_rfl) (fun _ _ _ h => h) (by rfl) ?_ ?_
  rotate_left
  · intro w9 h9; try dsimp only at h9
    go_split_ands
    go_simp; try with_reducible rfl
  try simp only [Act.put, List.setIfInBounds_toArray, List.set_cons_zero, List.set_cons_succ]
  refine restS_take (v := ?_) 5 rfl (by kernel_rfl) (by kernel_rfl) (by kernel_rfl) (fun _ _ _ h => h) (by rfl) ?_ ?_
  rotate_left
  · intro w9 h9; try dsimp only at h9
    obtain ⟨x9, rfl⟩ := later_of h9
    go_simp; try with_reducible rfl
  try simp only [Act.put, List.setIfInBounds_toArray, List.set_cons_zero, List.set_cons_succ]
  refine restS_take (v := ?_) 6 rfl (by kernel_rfl) (by kernel_rfl) (by kernel_rfl) (fun _ _ _ h => h) (by rfl) ?_ ?_
  rotate_left
  · intro w9 h9; try dsimp only at h9
    go_split_ands
    go_simp; try with_reducible rfl
  try simp only [Act.put, List.setIfInBounds_toArray, List.set_cons_zero, List.set_cons_succ]
  refine restS_take (v := ?_) 7 rfl (by kernel_rfl) (by kernel_rfl) (by kernel_rfl) (fun _ _ _ h => h) (by rfl) ?_ ?_
  rotate_left
  · intro w9 h9; try dsimp only at h9
    go_split_ands
    go_simp; try with_reducible rfl
  try simp only [Act.put, List.setIfInBounds_toArray, List.set_cons_zero, List.set_cons_succ]
  refine restS_take (v := ?_) 8 rfl (by kernel_rfl) (by kernel_rfl) (by kernel_rfl) (fun _ _ _ h => h) (by rfl) ?_ ?_
  rotate_left
  · intro w9 h9; try dsimp only at h9
    obtain ⟨x9, rfl⟩ := later_of h9
    go_simp; try with_reducible rfl
  try simp only [Act.put, List.setIfInBounds_toArray, List.set_cons_zero, List.set_cons_succ]
  refine restS_take (v := ?_) 9 rfl (by kernel_rfl) (by kernel_rfl) (by kernel_rfl) (fun _ _ _ h => h) (by rfl) ?_ ?_
  rotate_left
  · intro w9 h9; try dsimp only at h9
    go_split_ands
    go_simp; try with_reducible rfl
  try simp only [Act.put, List.setIfInBounds_toArray, List.set_cons_zero, List.set_cons_succ]
  refine restS_take (v := ?_) 10 rfl (by kernel_rfl) (by kernel_rfl) (by kernel_rfl) (fun _ _ _ h => h) (by rfl) ?_ ?_
  rotate_left
  · intro w9 h9; try dsimp only at h9
    go_split_ands
    go_simp; try with_reducible rfl
  try simp only [Act.put, List.setIfInBounds_toArray, List.set_cons_zero, List.set_cons_succ]
  refine restS_take (v := ?_) 11 rfl (by kernel_rfl) (by kernel_rfl) (by kernel_rfl) (fun _ _ _ h => h) (by rfl) ?_ ?_
  rotate_left
  · intro w9 h9; try dsimp only at h9
    obtain ⟨x9, rfl⟩ := later_of h9
    go_simp; try with_reducible rfl
  try simp only [Act.put, List.setIfInBounds_toArray, List.set_cons_zero, List.set_cons_succ]
  refine restS_take (v := ?_) 12 rfl (by kernel_rfl) (by kernel_rfl) (by kernel_rfl) (fun _ _ _ h => h) (by rfl) ?_ ?_
  rotate_left
  · intro w9 h9; try dsimp only at h9
    go_split_ands
    go_simp; try with_reducible rfl
  try simp only [Act.put, List.setIfInBounds_toArray, List.set_cons_zero, List.set_cons_succ]
  refine restS_take (v := ?_) 13 rfl (by kernel_rfl) (by kernel_rfl) (by kernel_rfl) (fun _ _ _ h => h) (by rfl) ?_ ?_
  rotate_left
  · intro w9 h9; try dsimp only at h9
    go_split_ands
    go_simp; try with_reducible rfl
  try simp only [Act.put, List.setIfInBounds_toArray, List.set_cons_zero, List.set_cons_succ]
  refine restS_take (v := ?_) 14 rfl (by kernel_rfl) (by kernel_rfl) (by kernel_rfl) (fun _ _ _ h => h) (by rfl) ?_ ?_
  rotate_left
  · intro w9 h9; try dsimp only at h9
    obtain ⟨x9, rfl⟩ := later_of h9
    go_simp; try with_reducible rfl
  try simp only [Act.put, List.setIfInBounds_toArray, List.set_cons_zero, List.set_cons_succ]
  refine restS_take (v := ?_) 15 rfl (by kernel_rfl) (by kernel_rfl) (by kernel_rfl) (fun _ _ _ h => h) (by rfl) ?_ ?_
  rotate_left
  · intro w9 h9; try dsimp only at h9
    go_split_ands
    go_simp; try with_reducible rfl
  try simp only [Act.put, List.setIfInBounds_toArray, List.set_cons_zero, List.set_cons_succ]
  refine restS_alone 16 rfl (by kernel_rfl) (by rfl) (fun hS K hK => ?_)
  go_wp2_with fail
  refine hK.out _ _ (by (repeat (first | with_reducible exact Below.refl _ _ | ((with_reducible refine bl_alloc ?_ ?_); (focus (first | (simp; done) | (simp; omega) | omega))) | ((with_reducible refine bl_set ?_ ?_); (focus (first | (simp; done) | (simp; omega) | omega))) | ((with_reducible refine bl_later ?_ ?_); (focus (first | (simp; done) | (simp; omega) | omega))) | with_reducible refine bl_drew ?_ | with_reducible refine bl_drewN ?_ | ((with_reducible refine bl_step (by assumption) ?_ ?_); (focus (first | (simp; done) | (simp; omega) | omega)))))) ?_
  try simp only [Act.put, List.setIfInBounds_toArray, List.set_cons_zero, List.set_cons_succ]
  clear hK K hS
  refine restS_alone 17 rfl (by kernel_rfl) (by rfl) (fun hS K hK => ?_)
  go_wp2_with fail
  refine hK.out _ _ (by (repeat (first | with_reducible exact Below.refl _ _ | ((with_reducible refine bl_alloc ?_ ?_); (focus (first | (simp; done) | (simp; omega) | omega))) | ((with_reducible refine bl_set ?_ ?_); (focus (first | (simp; done) | (simp; omega) | omega))) | ((with_reducible refine bl_later ?_ ?_); (focus (first | (simp; done) | (simp; omega) | omega))) | with_reducible refine bl_drew ?_ | with_reducible refine bl_drewN ?_ | ((with_reducible refine bl_step (by assumption) ?_ ?_); (focus (first | (simp; done) | (simp; omega) | omega)))))) ?_
  try simp only [Act.put, List.setIfInBounds_toArray, List.set_cons_zero, List.set_cons_succ]
  clear hK K hS
  refine restS_done (by kernel_rfl) (fun hS => ?_)
  go_wp2_with fail
  go_loopw [5] (fun v wr => ∃ (n : Nat) (q : List Int) (D : List (Int × Int)) (ao' : Option Addr) (cap' : Nat), v = .int .i64 n ∧ Hid (n % 2 = 0) ∧ Hid (l.length = n + q.length) ∧ Hid (∀ j x, q[j]? = some x → w.cell? ⟨b0, off + n + j, none⟩ = some (.int .i64 x)) ∧ Hid (duesOf r = D ++ duesOf q) ∧ Hid (D.length * 2 + q.length ≤ 1000) ∧ Hid (∀ x ∈ q, inI64 x) ∧ Bx wr (w.heap.size + 1) [.int .i64 p0, .int .i64 p1, .int .i64 p2, .int .i64 p3, .int .i64 p4, .slice ao' D.length cap'] ∧ Fx wr (w.heap.size + 1) ∧ Bx wr w.heap.size [.int .i64 0, .int .i64 0, .int .i64 0, .int .i64 0, .int .i64 0, .slice none 0 0] ∧ Fx wr w.heap.size ∧ OwnA dueE wr (w.heap.size + 1 + 1) 113 (.slice ao' D.length cap') D ∧ Below w.heap.size w wr)
    (fun v _ => l.length - (intOf v).toNat)
  case atStart => exact ⟨6, r, [], none, 0, rfl, rfl, hlen.out, Hqs.out, rfl, (by show _ ≤ 1000; simp; omega), Hri.out, HBx.out, HFx.out, HBz.out, HFz.out, ownA_nil _ _ _ _, hS⟩
  case round =>
    obtain ⟨n, q, D, ao', cap', rfl, Hpar, Hn, Hq, Hd, HdL, Hqi, hBx, hFx, hBz, hFz, hOw, hbel⟩ := hrel
    match q, Hn, Hq, Hd, HdL, Hqi with
    | x0 :: x1 :: q, Hn, Hq, Hd, HdL, Hqi =>
      have hn2 : n + 2 ≤ l.length := by have h7 := Hn.out; simp at h7; omega
      have k6 := Hq.out 0 x0 rfl
      have k7 := Hq.out 1 x1 rfl
      rw [Nat.add_zero] at k6
      have k8 : w.cell? ⟨b0, off + (n + 1), none⟩ = some (.int .i64 x1) := k7
      have hlt : n < l.length := by omega
      have hlt1 : n + 1 < l.length := by omega
      have hp6 : (n : Int) < (l.length : Int) := by omega
      have hp7 : (n : Int) + 1 < (l.length : Int) := by omega
      have hx0 := Hqi.out x0 (by simp)
      have hx1 := Hqi.out x1 (by simp)
      have hDl : D.length ≤ 1000 := by have h7 := HdL.out; omega
      go_wp2_with fail
      refine restS_begin (fun W => Below w.heap.size w W) (by kernel_rfl) hbel.drew ?_
      have hBw := hBx
      replace hBx := hBx.drew
      replace hFx := hFx.drew
      replace hBz := hBz.drew
      replace hFz := hFz.drew
      replace hOw := hOw.below (Below.refl _ _).drew
      have hw1 : IntKind.i64.wrap ((n : Int) + 1) = (n : Int) + 1 := IntWalk.i64_in _ (by omega)
      have hw2 : (0 : Int) ≤ (n : Int) + 1 := by omega
      have hw3 : ((n : Int) + 1).toNat = n + 1 := by omega
      refine restS_take (v := ?_) 0 rfl (by kernel_rfl) (by kernel_rfl) (by kernel_rfl) (fun _ _ _ h => h) (by rfl) ?_ ?_
      rotate_left
      · intro w9 h9; try dsimp only at h9
        go_split_ands
        go_simp; try with_reducible rfl
      try simp only [Act.put, List.setIfInBounds_toArray, List.set_cons_zero, List.set_cons_succ]
      refine restS_take (v := ?_) 2 rfl (by kernel_rfl) (by kernel_rfl) (by kernel_rfl) (fun _ _ _ h => h) (by rfl) ?_ ?_
      rotate_left
      · intro w9 h9; try dsimp only at h9
        go_split_ands
        go_simp; try with_reducible rfl
      try simp only [Act.put, List.setIfInBounds_toArray, List.set_cons_zero, List.set_cons_succ]
      refine restS_take (v := ?_) 3 rfl (by kernel_rfl) (by kernel_rfl) (by kernel_rfl) (fun _ _ _ h => h) (by rfl) ?_ ?_
      rotate_left
      · intro w9 h9; try dsimp only at h9
        go_split_ands
        go_simp; try with_reducible rfl
      try simp only [Act.put, List.setIfInBounds_toArray, List.set_cons_zero, List.set_cons_succ]
      refine restS_take (v := ?_) 4 rfl (by kernel_rfl) (by kernel_rfl) (by kernel_rfl) (fun _ _ _ h => h) (by rfl) ?_ ?_
      rotate_left
      · intro w9 h9; try dsimp only at h9
        go_split_ands
        go_simp; try with_reducible rfl
      try simp only [Act.put, List.setIfInBounds_toArray, List.set_cons_zero, List.set_cons_succ]
      refine restS_take (v := ?_) 5 rfl (by kernel_rfl) (by kernel_rfl) (by kernel_rfl) (fun _ _ _ h => h) (by rfl) ?_ ?_
      rotate_left
      · intro w9 h9; try dsimp only at h9
        obtain ⟨x9, rfl⟩ := later_of h9
        go_simp; try with_reducible rfl
      try simp only [Act.put, List.setIfInBounds_toArray, List.set_cons_zero, List.set_cons_succ]
      refine restS_take (v := ?_) 6 rfl (by kernel_rfl) (by kernel_rfl) (by kernel_rfl) (fun _ _ _ h => h) (by rfl) ?_ ?_
      rotate_left
      · intro w9 h9; try dsimp only at h9
        go_split_ands
        go_simp; try with_reducible rfl
      try simp only [Act.put, List.setIfInBounds_toArray, List.set_cons_zero, List.set_cons_succ]
      refine restS_take (v := ?_) 7 rfl (by kernel_rfl) (by kernel_rfl) (by kernel_rfl) (fun _ _ _ h => h) (by rfl) ?_ ?_
      rotate_left
      · intro w9 h9; try dsimp only at h9
        go_split_ands
        go_simp; try with_reducible rfl
      try simp only [Act.put, List.setIfInBounds_toArray, List.set_cons_zero, List.set_cons_succ]
      refine restS_take (v := ?_) 8 rfl (by kernel_rfl) (by kernel_rfl) (by kernel_rfl) (fun _ _ _ h => h) (by rfl) ?_ ?_
      rotate_left
      · intro w9 h9; try dsimp only at h9
        go_split_ands
        go_simp; try with_reducible rfl
      try simp only [Act.put, List.setIfInBounds_toArray, List.set_cons_zero, List.set_cons_succ]
      refine restS_take (v := ?_) 9 rfl (by kernel_rfl) (by kernel_rfl) (by kernel_rfl) (fun _ _ _ h => h) (by rfl) ?_ ?_
      rotate_left
      · intro w9 h9; try dsimp only at h9
        go_split_ands
        go_simp; try with_reducible rfl
      try simp only [Act.put, List.setIfInBounds_toArray, List.set_cons_zero, List.set_cons_succ]
      refine restS_take (v := ?_) 10 rfl (by kernel_rfl) (by kernel_rfl) (by kernel_rfl) (fun _ _ _ h => h) (by rfl) ?_ ?_
      rotate_left
      · intro w9 h9; try dsimp only at h9
        obtain ⟨x9, rfl⟩ := later_of h9
        go_simp; try with_reducible rfl
      try simp only [Act.put, List.setIfInBounds_toArray, List.set_cons_zero, List.set_cons_succ]
      refine restS_take (v := ?_) 11 rfl (by kernel_rfl) (by kernel_rfl) (by kernel_rfl) (fun _ _ _ h => h) (by rfl) ?_ ?_
      rotate_left
      · intro w9 h9; try dsimp only at h9
        go_split_ands
        go_simp; try with_reducible rfl
      try simp only [Act.put, List.setIfInBounds_toArray, List.set_cons_zero, List.set_cons_succ]
      refine restS_two 1 12 rfl rfl (by kernel_rfl) (by rfl) (by rfl) (fun hS K hK => ?_) (fun hS K hK => ?_)
      · skip
        have q0 := hBw.2
        have hBl := hBw.1
        go_wp2_with fail
        clear q0
        refine hK.out _ _ hS ?_
        try simp only [Act.put, List.setIfInBounds_toArray, List.set_cons_zero, List.set_cons_succ]
        clear hK K hS
        refine restS_alone 12 rfl (by kernel_rfl) (by rfl) (fun hS K hK => ?_)
        go_wp2_with fail
        have hL := lit_due hS x0 x1 hx0 hx1
        simp only [World.size_drew] at hL
        replace hBx := hBx.alloc (.cells ([.int .i64 x0, .int .i64 x1] : List Value).toArray 113)
        replace hFx := hFx.alloc (.cells ([.int .i64 x0, .int .i64 x1] : List Value).toArray 113)
        replace hBz := hBz.alloc (.cells ([.int .i64 x0, .int .i64 x1] : List Value).toArray 113)
        replace hFz := hFz.alloc (.cells ([.int .i64 x0, .int .i64 x1] : List Value).toArray 113)
        replace hOw := hOw.below ((Below.refl _ _).alloc (Nat.le_refl _) (.cells ([.int .i64 x0, .int .i64 x1] : List Value).toArray 113))
        have hS2 := hS.alloc hS.size (.cells ([.int .i64 x0, .int .i64 x1] : List Value).toArray 113)
        refine hK.out _ _ hS2 ?_
        try simp only [Act.put, List.setIfInBounds_toArray, List.set_cons_zero, List.set_cons_succ]
        clear hK K hS
        clear hS2
        refine restS_alone 13 rfl (by kernel_rfl) (by rfl) (fun hS K hK => ?_)
        have hlt2 := hOw.2.2.lt
        refine wpo_append_rows (E := dueE) _ _ _ (by rfl) (w.heap.size + 1 + 1) 113 j0 (.agg #[.int .i64 0, .int .i64 0]) 16 Try.underlying97 hj hj0 hj1 hj2 rfl (by omega) due_one _ _ _ _ D [(x0, x1)] (by rfl) hOw (by rfl) hL.read (by simp only [List.length_cons, List.length_nil]; omega) (by have h7 := hBx.1; simp only [World.size_alloc, World.size_drew] at h7 ⊢; omega) (fun a5 c5 w5 ho5 hg5 => ?_)
        replace hBx := hBx.grown hg5 (fun e => by have h7 := (hlt2 _ e).1; omega)
        replace hFx := hFx.grown hg5 (fun e => by have h7 := (hlt2 _ e).1; omega)
        replace hBz := hBz.grown hg5 (fun e => by have h7 := (hlt2 _ e).1; omega)
        replace hFz := hFz.grown hg5 (fun e => by have h7 := (hlt2 _ e).1; omega)
        have hS2 := bl_grown hg5 hS.size (fun k hk => Nat.le_trans (by omega) (hlt2 k hk).1) hS
        clear hlt2 hOw hL
        refine hK.out _ _ hS2 ?_
        try simp only [Act.put, List.setIfInBounds_toArray, List.set_cons_zero, List.set_cons_succ]
        clear hK K hS
        clear hS2 hg5
        refine restS_take (v := ?_) 14 rfl (by kernel_rfl) (by kernel_rfl) (by kernel_rfl) (fun _ _ _ h => h) (by rfl) ?_ ?_
        rotate_left
        · intro w9 h9; try dsimp only at h9
          go_split_ands
          go_simp; try with_reducible rfl
        try simp only [Act.put, List.setIfInBounds_toArray, List.set_cons_zero, List.set_cons_succ]
        refine restS_alone 15 rfl (by kernel_rfl) (by rfl) (fun hS K hK => ?_)
        have q0 := hBx.2
        have q1 := hFx.2
        go_wp2_with fail
        clear q0 q1
        replace hBx := hBx.set 5 (.slice a5 (D.length + 1) c5) (by simp)
        replace hFx := hFx.set ⟨w.heap.size + 1, 5, none⟩ (.slice a5 (D.length + 1) c5)
        replace hBz := hBz.setOther ⟨w.heap.size + 1, 5, none⟩ (.slice a5 (D.length + 1) c5) (by simp)
        replace hFz := hFz.set ⟨w.heap.size + 1, 5, none⟩ (.slice a5 (D.length + 1) c5)
        replace ho5 := ho5.set (a := ⟨w.heap.size + 1, 5, none⟩) (u := .slice a5 (D.length + 1) c5) (by simp)
        have hS2 : Below w.heap.size w _ := hS.setCell (p := ⟨w.heap.size + 1, 5, none⟩) (by simp) (.slice a5 (D.length + 1) c5)
        refine hK.out _ _ hS2 ?_
        try simp only [Act.put, List.setIfInBounds_toArray, List.set_cons_zero, List.set_cons_succ]
        clear hK K hS
        clear hS2
        refine restS_done (by kernel_rfl) (fun hS => ?_)
        simp only [List.set_cons_succ, List.set_cons_zero] at hBx
        clear hw1 hw2 hw3
        go_wp2_with fail
        go_roundw
        case rel => exact ⟨n + 2, q, D ++ [(x0, x1)], a5, c5, by go_num, (by have h7 := Hpar.out; show _ % 2 = 0; omega), (by show _ = _; rw [Hn.out]; simp only [List.length_cons]; omega), (fun j x hj => by have h7 := Hq.out (j + 2) x (by simpa using hj); rwa [show off + n + (j + 2) = off + (n + 2) + j by omega] at h7), (by show duesOf r = _; rw [Hd.out]; simp [duesOf]), (by show _ ≤ 1000; have h7 := HdL.out; simp only [List.length_append, List.length_cons, List.length_nil] at h7 ⊢; omega), (fun x hx => Hqi.out x (by simp [hx])), (by rw [List.length_append]; exact hBx), hFx, hBz, hFz, ho5, hS⟩
        case measure => simp [intOf]; omega
      · skip
        go_wp2_with fail
        have hL := lit_due hS x0 x1 hx0 hx1
        simp only [World.size_drew] at hL
        replace hBx := hBx.alloc (.cells ([.int .i64 x0, .int .i64 x1] : List Value).toArray 113)
        replace hFx := hFx.alloc (.cells ([.int .i64 x0, .int .i64 x1] : List Value).toArray 113)
        replace hBz := hBz.alloc (.cells ([.int .i64 x0, .int .i64 x1] : List Value).toArray 113)
        replace hFz := hFz.alloc (.cells ([.int .i64 x0, .int .i64 x1] : List Value).toArray 113)
        replace hOw := hOw.below ((Below.refl _ _).alloc (Nat.le_refl _) (.cells ([.int .i64 x0, .int .i64 x1] : List Value).toArray 113))
        have hS2 := hS.alloc hS.size (.cells ([.int .i64 x0, .int .i64 x1] : List Value).toArray 113)
        refine hK.out _ _ hS2 ?_
        try simp only [Act.put, List.setIfInBounds_toArray, List.set_cons_zero, List.set_cons_succ]
        clear hK K hS
        clear hS2
        refine restS_alone 1 rfl (by kernel_rfl) (by rfl) (fun hS K hK => ?_)
        have q0 := hBw.2
        have hBl := hBw.1
        go_wp2_with fail
        clear q0
        refine hK.out _ _ hS ?_
        try simp only [Act.put, List.setIfInBounds_toArray, List.set_cons_zero, List.set_cons_succ]
        clear hK K hS
        refine restS_alone 13 rfl (by kernel_rfl) (by rfl) (fun hS K hK => ?_)
        have hlt2 := hOw.2.2.lt
        refine wpo_append_rows (E := dueE) _ _ _ (by rfl) (w.heap.size + 1 + 1) 113 j0 (.agg #[.int .i64 0, .int .i64 0]) 16 Try.underlying97 hj hj0 hj1 hj2 rfl (by omega) due_one _ _ _ _ D [(x0, x1)] (by rfl) hOw (by rfl) hL.read (by simp only [List.length_cons, List.length_nil]; omega) (by have h7 := hBx.1; simp only [World.size_alloc, World.size_drew] at h7 ⊢; omega) (fun a5 c5 w5 ho5 hg5 => ?_)
        replace hBx := hBx.grown hg5 (fun e => by have h7 := (hlt2 _ e).1; omega)
        replace hFx := hFx.grown hg5 (fun e => by have h7 := (hlt2 _ e).1; omega)
        replace hBz := hBz.grown hg5 (fun e => by have h7 := (hlt2 _ e).1; omega)
        replace hFz := hFz.grown hg5 (fun e => by have h7 := (hlt2 _ e).1; omega)
        have hS2 := bl_grown hg5 hS.size (fun k hk => Nat.le_trans (by omega) (hlt2 k hk).1) hS
        clear hlt2 hOw hL
        refine hK.out _ _ hS2 ?_
        try simp only [Act.put, List.setIfInBounds_toArray, List.set_cons_zero, List.set_cons_succ]
        clear hK K hS
        clear hS2 hg5
        refine restS_take (v := ?_) 14 rfl (by kernel_rfl) (by kernel_rfl) (by kernel_rfl) (fun _ _ _ h => h) (by rfl) ?_ ?_
        rotate_left
        · intro w9 h9; try dsimp only at h9
          go_split_ands
          go_simp; try with_reducible rfl
        try simp only [Act.put, List.setIfInBounds_toArray, List.set_cons_zero, List.set_cons_succ]
        refine restS_alone 15 rfl (by kernel_rfl) (by rfl) (fun hS K hK => ?_)
        have q0 := hBx.2
        have q1 := hFx.2
        go_wp2_with fail
        clear q0 q1
        replace hBx := hBx.set 5 (.slice a5 (D.length + 1) c5) (by simp)
        replace hFx := hFx.set ⟨w.heap.size + 1, 5, none⟩ (.slice a5 (D.length + 1) c5)
        replace hBz := hBz.setOther ⟨w.heap.size + 1, 5, none⟩ (.slice a5 (D.length + 1) c5) (by simp)
        replace hFz := hFz.set ⟨w.heap.size + 1, 5, none⟩ (.slice a5 (D.length + 1) c5)
        replace ho5 := ho5.set (a := ⟨w.heap.size + 1, 5, none⟩) (u := .slice a5 (D.length + 1) c5) (by simp)
        have hS2 : Below w.heap.size w _ := hS.setCell (p := ⟨w.heap.size + 1, 5, none⟩) (by simp) (.slice a5 (D.length + 1) c5)
        refine hK.out _ _ hS2 ?_
        try simp only [Act.put, List.setIfInBounds_toArray, List.set_cons_zero, List.set_cons_succ]
        clear hK K hS
        clear hS2
        refine restS_done (by kernel_rfl) (fun hS => ?_)
        simp only [List.set_cons_succ, List.set_cons_zero] at hBx
        clear hw1 hw2 hw3
        go_wp2_with fail
        go_roundw
        case rel => exact ⟨n + 2, q, D ++ [(x0, x1)], a5, c5, by go_num, (by have h7 := Hpar.out; show _ % 2 = 0; omega), (by show _ = _; rw [Hn.out]; simp only [List.length_cons]; omega), (fun j x hj => by have h7 := Hq.out (j + 2) x (by simpa using hj); rwa [show off + n + (j + 2) = off + (n + 2) + j by omega] at h7), (by show duesOf r = _; rw [Hd.out]; simp [duesOf]), (by show _ ≤ 1000; have h7 := HdL.out; simp only [List.length_append, List.length_cons, List.length_nil] at h7 ⊢; omega), (fun x hx => Hqi.out x (by simp [hx])), (by rw [List.length_append]; exact hBx), hFx, hBz, hFz, ho5, hS⟩
        case measure => simp [intOf]; omega
    | [x0], Hn, Hq, Hd, HdL, Hqi => exact absurd (show False from by have h7 := Hn.out; have h8 := Hpar.out; have h9 := hev.out; simp only [List.length_cons, List.length_nil] at h7; omega) (fun h => h)
    | [], Hn, Hq, Hd, HdL, Hqi =>
      have e : D = duesOf r := by rw [Hd.out]; simp [duesOf]
      subst e
      have hd : decide (n < l.length) = false := by have h7 := Hn.out; simp only [List.length_nil] at h7; simp; omega
      have hr7 : r.length % 2 = 0 := by have h7 := hev.out; have h8 := hlen.out; omega
      cases hE : jobsOk p0 p1 p2 p3 p4 (duesOf r)
      · have hj : isJobs l = false := by rw [Hl.out]; simp [isJobs, hE]
        have q0 := hBx.2
        go_wp2_with fail
        clear q0
        refine (c_spec_JobsOk2 _ _ _ _ _ _ _ _ _ hOw.read).mono ?_
        rintro e w1 ⟨rfl, hb1⟩
        replace hBx := hBx.below hb1
        replace hBz := hBz.below hb1
        replace hFz := hFz.below hb1
        replace hOw := hOw.below hb1
        replace hbel := bl_step hb1 hbel.size hbel
        clear hb1
        have q0 := hBx.2
        have q1 := hBz.2
        have q2 := hFz.2
        go_wp2_with fail
        refine bodyPost_ret (v := .tuple #[.agg #[.int .i64 0, .int .i64 0, .int .i64 0, .int .i64 0, .int .i64 0, .slice none 0 0], .bool false]) (by simp [results, Try.results81, go_sem, *]) rfl (retRowJobs_no hj ?_)
        (repeat (first | with_reducible exact Below.refl _ _ | ((with_reducible refine bl_alloc ?_ ?_); (focus (first | (simp; done) | (simp; omega) | omega))) | ((with_reducible refine bl_set ?_ ?_); (focus (first | (simp; done) | (simp; omega) | omega))) | ((with_reducible refine bl_later ?_ ?_); (focus (first | (simp; done) | (simp; omega) | omega))) | with_reducible refine bl_drew ?_ | with_reducible refine bl_drewN ?_ | ((with_reducible refine bl_step (by assumption) ?_ ?_); (focus (first | (simp; done) | (simp; omega) | omega)))))
      · have hj : isJobs (9 :: p0 :: p1 :: p2 :: p3 :: p4 :: r) = true := by simp [isJobs, hE, hlr, hr7]
        have q0 := hBx.2
        go_wp2_with fail
        clear q0
        refine (c_spec_JobsOk2 _ _ _ _ _ _ _ _ _ hOw.read).mono ?_
        rintro e w1 ⟨rfl, hb1⟩
        replace hBx := hBx.below hb1
        replace hBz := hBz.below hb1
        replace hFz := hFz.below hb1
        replace hOw := hOw.below hb1
        replace hbel := bl_step hb1 hbel.size hbel
        clear hb1
        have q0 := hBx.2
        have q1 := hBz.2
        have q2 := hFz.2
        go_wp2_with fail
        refine bodyPost_ret (v := .tuple #[.agg #[.int .i64 p0, .int .i64 p1, .int .i64 p2, .int .i64 p3, .int .i64 p4, .slice ao' (duesOf r).length cap'], .bool true]) (by simp [results, Try.results81, go_sem, *]) rfl ?_
        rw [Hl.out]
        refine retRowJobs_yes hj ?_ (by (repeat (first | with_reducible exact Below.refl _ _ | ((with_reducible refine bl_alloc ?_ ?_); (focus (first | (simp; done) | (simp; omega) | omega))) | ((with_reducible refine bl_set ?_ ?_); (focus (first | (simp; done) | (simp; omega) | omega))) | ((with_reducible refine bl_later ?_ ?_); (focus (first | (simp; done) | (simp; omega) | omega))) | with_reducible refine bl_drew ?_ | with_reducible refine bl_drewN ?_ | ((with_reducible refine bl_step (by assumption) ?_ ?_); (focus (first | (simp; done) | (simp; omega) | omega))))))
        refine OwnA.weak (lo := w.heap.size + 1 + 1) (by omega) ?_
        repeat (first | ((with_reducible refine OwnA.set ?_ ?_); (focus (first | (simp; done) | (simp; omega) | omega))))
        exact hOw

end Go.Proofs.Ytpfkfppooeikeaa
