/- Walks of functions of the program, printed by a program of the prover. -/
import Derived.Test.YtpfkfppooeikeaaRowAskS
import Derived.Test.YtpfkfppooeikeaaEnt
import Derived.WalkKit
import Derived.WalkSpells
import Derived.Deep.QuietTactic
import Derived.BigQuiet
import Derived.Deep.Light
import Derived.Lib.Hide
import Derived.Deep.RegionHeld3
namespace Go.Proofs.Ytpfkfppooeikeaa
open Go.ChangeShapes Go.WideShapes Go.ChangeAt Go.RowKit Go.Deep
set_option maxHeartbeats 1600000
set_option maxRecDepth 100000
theorem c_spec_RowEntry_t (ao : Option Addr) (cap : Nat) (i t c s k a b x y : Int) (w : World) (hh : IntsR w ao [i, t, c, s, k, a, b, x, y]) (hcap : 9 ≤ cap) (hE : entryOk i t c s k a b x y = true) :
    Calls Try.prog 147 #[.slice ao 9 cap] w fun e w' => e = .returned (.tuple #[.agg #[.int .i64 i, .int .i64 t, .int .i64 c, .int .i64 s, .int .i64 k, .int .i64 a, .int .i64 b, .int .i64 x, .int .i64 y], .bool true]) ∧ Below w.heap.size w w' := by
  obtain ⟨b0, off, rfl, hbl, hr0, hc⟩ := hh.at (k := 0) (by simp)
  have k0 := hc 0 (by simp)
  have k1 := hc 1 (by simp)
  have k2 := hc 2 (by simp)
  have k3 := hc 3 (by simp)
  simp only [List.getElem_cons_zero, List.getElem_cons_succ, Nat.add_zero] at k0 k1 k2 k3
  have hh4 : IntsR w (some ⟨b0, off + 4, none⟩) [k, a, b, x, y] := hh.tail.tail.tail.tail
  clear hc hh hr0
  have hcap4 : (4 : Int) ≤ cap := by omega
  have hbl1 : b0 < w.heap.size + 1 := by omega
  have Hh4 := Lib.hid hh4
  clear hh4
  have hO : opOk k a b x y = true := by simp only [entryOk, Bool.and_eq_true] at hE; exact hE.2.2.2.2
  go_enter Try.func147, Try.ntmps147
  go_wp2_with (go_at_call 126; refine (c_spec_RowOp_t _ _ k a b x y _ (Hh4.out.below (by (repeat (first | with_reducible exact Below.refl _ _ | ((with_reducible refine bl_alloc ?_ ?_); (focus (first | (simp; done) | (simp; omega) | omega))) | ((with_reducible refine bl_set ?_ ?_); (focus (first | (simp; done) | (simp; omega) | omega))) | ((with_reducible refine bl_later ?_ ?_); (focus (first | (simp; done) | (simp; omega) | omega))) | with_reducible refine bl_drew ?_ | with_reducible refine bl_drewN ?_ | ((with_reducible refine bl_step (by assumption) ?_ ?_); (focus (first | (simp; done) | (simp; omega) | omega))))))) hO).mono ?_; rintro e w1 ⟨rfl, hb1⟩; have hz1 := hb1.size; (try simp only [World.size_alloc] at hz1); have Bz := (Bx.new w [.int .i64 0, .int .i64 0, .int .i64 0, .int .i64 0, .int .i64 0, .int .i64 0, .int .i64 0, .int .i64 0, .int .i64 0] 70).below hb1; have Fz := (Fx.new w [.int .i64 0, .int .i64 0, .int .i64 0, .int .i64 0, .int .i64 0, .int .i64 0, .int .i64 0, .int .i64 0, .int .i64 0] 70).below hb1; have hw1 := bl_step hb1 (by simp) ((Below.refl _ w).alloc (Nat.le_refl _) _); clear hb1)
  have j0 := (hw1.cell (p := ⟨b0, off, none⟩) hbl).trans k0
  have j1 := (hw1.cell (p := ⟨b0, off + 1, none⟩) hbl).trans k1
  have j2 := (hw1.cell (p := ⟨b0, off + 2, none⟩) hbl).trans k2
  have j3 := (hw1.cell (p := ⟨b0, off + 3, none⟩) hbl).trans k3
  have hbl1 : b0 < w1.heap.size := by omega
  have hbl2 : b0 < w1.heap.size + 1 := by omega
  clear k0 k1 k2 k3
  refine restS_begin (fun W => Below (w1.alloc (.cells #[.int .i64 k, .int .i64 a, .int .i64 b, .int .i64 x, .int .i64 y] 68)).heap.size (w1.alloc (.cells #[.int .i64 k, .int .i64 a, .int .i64 b, .int .i64 x, .int .i64 y] 68)) W) (by kernel_rfl) (by (repeat (first | with_reducible exact Below.refl _ _ | ((with_reducible refine bl_alloc ?_ ?_); (focus (first | (simp; done) | (simp; omega) | omega))) | ((with_reducible refine bl_set ?_ ?_); (focus (first | (simp; done) | (simp; omega) | omega))) | ((with_reducible refine bl_later ?_ ?_); (focus (first | (simp; done) | (simp; omega) | omega))) | with_reducible refine bl_drew ?_ | with_reducible refine bl_drewN ?_ | ((with_reducible refine bl_step (by assumption) ?_ ?_); (focus (first | (simp; done) | (simp; omega) | omega)))))) ?_
  refine restS_take (v := ?_) 0 rfl (by kernel_rfl) (by kernel_rfl) (by kernel_rfl) (fun _ _ _ h => h) (by rfl) ?_ ?_
  rotate_left
  · intro w9 h9; try dsimp only at h9
    go_split_ands
    go_simp; try with_reducible rfl
  try simp only [Act.put, List.setIfInBounds_toArray, List.set_cons_zero, List.set_cons_succ]
  refine restS_take (v := ?_) 1 rfl (by kernel_rfl) (by kernel_rfl) (by kernel_rfl) (fun _ _ _ h => h) (by rfl) ?_ ?_
  rotate_left
  · intro w9 h9; try dsimp only at h9
    go_split_ands
    go_simp; try with_reducible rfl
  try simp only [Act.put, List.setIfInBounds_toArray, List.set_cons_zero, List.set_cons_succ]
  refine restS_take (v := ?_) 2 rfl (by kernel_rfl) (by kernel_rfl) (by kernel_rfl) (fun _ _ _ h => h) (by rfl) ?_ ?_
  rotate_left
  · intro w9 h9; try dsimp only at h9
    obtain ⟨x9, rfl⟩ := later_of h9
    go_simp; try with_reducible rfl
  try simp only [Act.put, List.setIfInBounds_toArray, List.set_cons_zero, List.set_cons_succ]
  refine restS_take (v := ?_) 3 rfl (by kernel_rfl) (by kernel_rfl) (by kernel_rfl) (fun _ _ _ h => h) (by rfl) ?_ ?_
  rotate_left
  · intro w9 h9; try dsimp only at h9
    go_split_ands
    go_simp; try with_reducible rfl
  try simp only [Act.put, List.setIfInBounds_toArray, List.set_cons_zero, List.set_cons_succ]
  refine restS_take (v := ?_) 4 rfl (by kernel_rfl) (by kernel_rfl) (by kernel_rfl) (fun _ _ _ h => h) (by rfl) ?_ ?_
  rotate_left
  · intro w9 h9; try dsimp only at h9
    go_split_ands
    go_simp; try with_reducible rfl
  try simp only [Act.put, List.setIfInBounds_toArray, List.set_cons_zero, List.set_cons_succ]
  refine restS_take (v := ?_) 5 rfl (by kernel_rfl) (by kernel_rfl) (by kernel_rfl) (fun _ _ _ h => h) (by rfl) ?_ ?_
  rotate_left
  · intro w9 h9; try dsimp only at h9
    obtain ⟨x9, rfl⟩ := later_of h9
    go_simp; try with_reducible rfl
  try simp only [Act.put, List.setIfInBounds_toArray, List.set_cons_zero, List.set_cons_succ]
  refine restS_take (v := ?_) 6 rfl (by kernel_rfl) (by kernel_rfl) (by kernel_rfl) (fun _ _ _ h => h) (by rfl) ?_ ?_
  rotate_left
  · intro w9 h9; try dsimp only at h9
    go_split_ands
    go_simp; try with_reducible rfl
  try simp only [Act.put, List.setIfInBounds_toArray, List.set_cons_zero, List.set_cons_succ]
  refine restS_take (v := ?_) 7 rfl (by kernel_rfl) (by kernel_rfl) (by kernel_rfl) (fun _ _ _ h => h) (by rfl) ?_ ?_
  rotate_left
  · intro w9 h9; try dsimp only at h9
    go_split_ands
    go_simp; try with_reducible rfl
  try simp only [Act.put, List.setIfInBounds_toArray, List.set_cons_zero, List.set_cons_succ]
  refine restS_take (v := ?_) 8 rfl (by kernel_rfl) (by kernel_rfl) (by kernel_rfl) (fun _ _ _ h => h) (by rfl) ?_ ?_
  rotate_left
  · intro w9 h9; try dsimp only at h9
    obtain ⟨x9, rfl⟩ := later_of h9
    go_simp; try with_reducible rfl
  try simp only [Act.put, List.setIfInBounds_toArray, List.set_cons_zero, List.set_cons_succ]
  refine restS_take (v := ?_) 9 rfl (by kernel_rfl) (by kernel_rfl) (by kernel_rfl) (fun _ _ _ h => h) (by rfl) ?_ ?_
  rotate_left
  · intro w9 h9; try dsimp only at h9
    go_split_ands
    go_simp; try with_reducible rfl
  try simp only [Act.put, List.setIfInBounds_toArray, List.set_cons_zero, List.set_cons_succ]
  refine restS_take (v := ?_) 10 rfl (by kernel_rfl) (by kernel_rfl) (by kernel_rfl) (fun _ _ _ h => h) (by rfl) ?_ ?_
  rotate_left
  · intro w9 h9; try dsimp only at h9
    go_split_ands
    go_simp; try with_reducible rfl
  try simp only [Act.put, List.setIfInBounds_toArray, List.set_cons_zero, List.set_cons_succ]
  refine restS_take (v := ?_) 11 rfl (by kernel_rfl) (by kernel_rfl) (by kernel_rfl) (fun _ _ _ h => h) (by rfl) ?_ ?_
  rotate_left
  · intro w9 h9; try dsimp only at h9
    obtain ⟨x9, rfl⟩ := later_of h9
    go_simp; try with_reducible rfl
  try simp only [Act.put, List.setIfInBounds_toArray, List.set_cons_zero, List.set_cons_succ]
  refine restS_take (v := ?_) 12 rfl (by kernel_rfl) (by kernel_rfl) (by kernel_rfl) (fun _ _ _ h => h) (by rfl) ?_ ?_
  rotate_left
  · intro w9 h9; try dsimp only at h9
    obtain ⟨x9, rfl⟩ := later_of h9
    go_simp; try with_reducible rfl
  try simp only [Act.put, List.setIfInBounds_toArray, List.set_cons_zero, List.set_cons_succ]
  refine restS_take (v := ?_) 13 rfl (by kernel_rfl) (by kernel_rfl) (by kernel_rfl) (fun _ _ _ h => h) (by rfl) ?_ ?_
  rotate_left
  · intro w9 h9; try dsimp only at h9
    go_split_ands
    go_simp; try with_reducible rfl
  try simp only [Act.put, List.setIfInBounds_toArray, List.set_cons_zero, List.set_cons_succ]
  refine restS_alone 14 rfl (by kernel_rfl) (by rfl) (fun hS K hK => ?_)
  go_wp2_with fail
  refine hK.out _ _ (by (repeat (first | with_reducible exact Below.refl _ _ | ((with_reducible refine bl_alloc ?_ ?_); (focus (first | (simp; done) | (simp; omega) | omega))) | ((with_reducible refine bl_set ?_ ?_); (focus (first | (simp; done) | (simp; omega) | omega))) | ((with_reducible refine bl_later ?_ ?_); (focus (first | (simp; done) | (simp; omega) | omega))) | with_reducible refine bl_drew ?_ | with_reducible refine bl_drewN ?_ | ((with_reducible refine bl_step (by assumption) ?_ ?_); (focus (first | (simp; done) | (simp; omega) | omega)))))) ?_
  try simp only [Act.put, List.setIfInBounds_toArray, List.set_cons_zero, List.set_cons_succ]
  clear hK K hS
  refine restS_alone 15 rfl (by kernel_rfl) (by rfl) (fun hS K hK => ?_)
  go_wp2_with fail
  refine hK.out _ _ (by (repeat (first | with_reducible exact Below.refl _ _ | ((with_reducible refine bl_alloc ?_ ?_); (focus (first | (simp; done) | (simp; omega) | omega))) | ((with_reducible refine bl_set ?_ ?_); (focus (first | (simp; done) | (simp; omega) | omega))) | ((with_reducible refine bl_later ?_ ?_); (focus (first | (simp; done) | (simp; omega) | omega))) | with_reducible refine bl_drew ?_ | with_reducible refine bl_drewN ?_ | ((with_reducible refine bl_step (by assumption) ?_ ?_); (focus (first | (simp; done) | (simp; omega) | omega)))))) ?_
  try simp only [Act.put, List.setIfInBounds_toArray, List.set_cons_zero, List.set_cons_succ]
  clear hK K hS
  refine restS_done (by kernel_rfl) (fun hS => ?_)
  clear hS
  have Bz2 := ((Bz.alloc (.cells #[.int .i64 k, .int .i64 a, .int .i64 b, .int .i64 x, .int .i64 y] 68)).alloc (.cells #[.int .i64 i, .int .i64 t, .int .i64 c, .int .i64 s, .int .i64 k, .int .i64 a, .int .i64 b, .int .i64 x, .int .i64 y] 70)).drew
  have Fz2 := ((Fz.alloc (.cells #[.int .i64 k, .int .i64 a, .int .i64 b, .int .i64 x, .int .i64 y] 68)).alloc (.cells #[.int .i64 i, .int .i64 t, .int .i64 c, .int .i64 s, .int .i64 k, .int .i64 a, .int .i64 b, .int .i64 x, .int .i64 y] 70)).drew
  have By2 := (Bx.new (w1.alloc (.cells #[.int .i64 k, .int .i64 a, .int .i64 b, .int .i64 x, .int .i64 y] 68)) [.int .i64 i, .int .i64 t, .int .i64 c, .int .i64 s, .int .i64 k, .int .i64 a, .int .i64 b, .int .i64 x, .int .i64 y] 70).drew
  rw [World.size_alloc] at By2
  have q0 := Bz2.2
  have q1 := Fz2.2
  have q2 := By2.2
  have hw2 : Below w.heap.size w ((w1.alloc (.cells #[.int .i64 k, .int .i64 a, .int .i64 b, .int .i64 x, .int .i64 y] 68)).alloc (.cells #[.int .i64 i, .int .i64 t, .int .i64 c, .int .i64 s, .int .i64 k, .int .i64 a, .int .i64 b, .int .i64 x, .int .i64 y] 70)).drew := ((hw1.alloc hw1.size _).alloc (by have := hw1.size; simp; omega) _).drew
  go_wp2_with (go_at_call 154; refine (c_spec_EntryOk i t c s k a b x y _).mono ?_; rintro e w2 ⟨rfl, hb2⟩; clear q0 q1 q2; have q0 := (Bz2.below hb2).2; have q1 := (Fz2.below hb2).2; have q2 := (By2.below hb2).2; have hw3 := bl_step hb2 hw2.size hw2; have hz2 := hb2.size; simp only [World.size_drew, World.size_alloc] at hz2)
  refine bodyPost_ret (v := .tuple #[.agg #[.int .i64 i, .int .i64 t, .int .i64 c, .int .i64 s, .int .i64 k, .int .i64 a, .int .i64 b, .int .i64 x, .int .i64 y], .bool true]) (by simp [results, Try.results147, go_sem, *]) rfl ⟨rfl, ?_⟩
  (repeat (first | with_reducible exact Below.refl _ _ | ((with_reducible refine bl_alloc ?_ ?_); (focus (first | (simp; done) | (simp; omega) | omega))) | ((with_reducible refine bl_set ?_ ?_); (focus (first | (simp; done) | (simp; omega) | omega))) | ((with_reducible refine bl_later ?_ ?_); (focus (first | (simp; done) | (simp; omega) | omega))) | with_reducible refine bl_drew ?_ | with_reducible refine bl_drewN ?_ | ((with_reducible refine bl_step (by assumption) ?_ ?_); (focus (first | (simp; done) | (simp; omega) | omega)))))
theorem c_spec_RowEntry_f (ao : Option Addr) (cap : Nat) (i t c s k a b x y : Int) (w : World) (hh : IntsR w ao [i, t, c, s, k, a, b, x, y]) (hcap : 9 ≤ cap) (hE : entryOk i t c s k a b x y = false) :
    Calls Try.prog 147 #[.slice ao 9 cap] w fun e w' => e = .returned (.tuple #[.agg #[.int .i64 0, .int .i64 0, .int .i64 0, .int .i64 0, .int .i64 0, .int .i64 0, .int .i64 0, .int .i64 0, .int .i64 0], .bool false]) ∧ Below w.heap.size w w' := by
  obtain ⟨b0, off, rfl, hbl, hr0, hc⟩ := hh.at (k := 0) (by simp)
  have k0 := hc 0 (by simp)
  have k1 := hc 1 (by simp)
  have k2 := hc 2 (by simp)
  have k3 := hc 3 (by simp)
  simp only [List.getElem_cons_zero, List.getElem_cons_succ, Nat.add_zero] at k0 k1 k2 k3
  have hh4 : IntsR w (some ⟨b0, off + 4, none⟩) [k, a, b, x, y] := hh.tail.tail.tail.tail
  clear hc hh hr0
  have hcap4 : (4 : Int) ≤ cap := by omega
  have hbl1 : b0 < w.heap.size + 1 := by omega
  have Hh4 := Lib.hid hh4
  clear hh4
  cases hO : opOk k a b x y
  · skip
    go_enter Try.func147, Try.ntmps147
    go_wp2_with (go_at_call 126; refine (c_spec_RowOp_f _ _ k a b x y _ (Hh4.out.below (by (repeat (first | with_reducible exact Below.refl _ _ | ((with_reducible refine bl_alloc ?_ ?_); (focus (first | (simp; done) | (simp; omega) | omega))) | ((with_reducible refine bl_set ?_ ?_); (focus (first | (simp; done) | (simp; omega) | omega))) | ((with_reducible refine bl_later ?_ ?_); (focus (first | (simp; done) | (simp; omega) | omega))) | with_reducible refine bl_drew ?_ | with_reducible refine bl_drewN ?_ | ((with_reducible refine bl_step (by assumption) ?_ ?_); (focus (first | (simp; done) | (simp; omega) | omega))))))) hO).mono ?_; rintro e w1 ⟨rfl, hb1⟩; have hz1 := hb1.size; (try simp only [World.size_alloc] at hz1); have Bz := (Bx.new w [.int .i64 0, .int .i64 0, .int .i64 0, .int .i64 0, .int .i64 0, .int .i64 0, .int .i64 0, .int .i64 0, .int .i64 0] 70).below hb1; have Fz := (Fx.new w [.int .i64 0, .int .i64 0, .int .i64 0, .int .i64 0, .int .i64 0, .int .i64 0, .int .i64 0, .int .i64 0, .int .i64 0] 70).below hb1; have hw1 := bl_step hb1 (by simp) ((Below.refl _ w).alloc (Nat.le_refl _) _); clear hb1)
    have j0 := (hw1.cell (p := ⟨b0, off, none⟩) hbl).trans k0
    have j1 := (hw1.cell (p := ⟨b0, off + 1, none⟩) hbl).trans k1
    have j2 := (hw1.cell (p := ⟨b0, off + 2, none⟩) hbl).trans k2
    have j3 := (hw1.cell (p := ⟨b0, off + 3, none⟩) hbl).trans k3
    have hbl1 : b0 < w1.heap.size := by omega
    have hbl2 : b0 < w1.heap.size + 1 := by omega
    clear k0 k1 k2 k3
    refine restS_begin (fun W => Below (w1.alloc (.cells #[.int .i64 0, .int .i64 0, .int .i64 0, .int .i64 0, .int .i64 0] 68)).heap.size (w1.alloc (.cells #[.int .i64 0, .int .i64 0, .int .i64 0, .int .i64 0, .int .i64 0] 68)) W) (by kernel_rfl) (by (repeat (first | with_reducible exact Below.refl _ _ | ((with_reducible refine bl_alloc ?_ ?_); (focus (first | (simp; done) | (simp; omega) | omega))) | ((with_reducible refine bl_set ?_ ?_); (focus (first | (simp; done) | (simp; omega) | omega))) | ((with_reducible refine bl_later ?_ ?_); (focus (first | (simp; done) | (simp; omega) | omega))) | with_reducible refine bl_drew ?_ | with_reducible refine bl_drewN ?_ | ((with_reducible refine bl_step (by assumption) ?_ ?_); (focus (first | (simp; done) | (simp; omega) | omega)))))) ?_
    refine restS_take (v := ?_) 0 rfl (by kernel_rfl) (by kernel_rfl) (by kernel_rfl) (fun _ _ _ h => h) (by rfl) ?_ ?_
    rotate_left
    · intro w9 h9; try dsimp only at h9
      go_split_ands
      go_simp; try with_reducible rfl
    try simp only [Act.put, List.setIfInBounds_toArray, List.set_cons_zero, List.set_cons_succ]
    refine restS_take (v := ?_) 1 rfl (by kernel_rfl) (by kernel_rfl) (by kernel_rfl) (fun _ _ _ h => h) (by rfl) ?_ ?_
    rotate_left
    · intro w9 h9; try dsimp only at h9
      go_split_ands
      go_simp; try with_reducible rfl
    try simp only [Act.put, List.setIfInBounds_toArray, List.set_cons_zero, List.set_cons_succ]
    refine restS_take (v := ?_) 2 rfl (by kernel_rfl) (by kernel_rfl) (by kernel_rfl) (fun _ _ _ h => h) (by rfl) ?_ ?_
    rotate_left
    · intro w9 h9; try dsimp only at h9
      obtain ⟨x9, rfl⟩ := later_of h9
      go_simp; try with_reducible rfl
    try simp only [Act.put, List.setIfInBounds_toArray, List.set_cons_zero, List.set_cons_succ]
    refine restS_take (v := ?_) 3 rfl (by kernel_rfl) (by kernel_rfl) (by kernel_rfl) (fun _ _ _ h => h) (by rfl) ?_ ?_
    rotate_left
    · intro w9 h9; try dsimp only at h9
      go_split_ands
      go_simp; try with_reducible rfl
    try simp only [Act.put, List.setIfInBounds_toArray, List.set_cons_zero, List.set_cons_succ]
    refine restS_take (v := ?_) 4 rfl (by kernel_rfl) (by kernel_rfl) (by kernel_rfl) (fun _ _ _ h => h) (by rfl) ?_ ?_
    rotate_left
    · intro w9 h9; try dsimp only at h9
      go_split_ands
      go_simp; try with_reducible rfl
    try simp only [Act.put, List.setIfInBounds_toArray, List.set_cons_zero, List.set_cons_succ]
    refine restS_take (v := ?_) 5 rfl (by kernel_rfl) (by kernel_rfl) (by kernel_rfl) (fun _ _ _ h => h) (by rfl) ?_ ?_
    rotate_left
    · intro w9 h9; try dsimp only at h9
      obtain ⟨x9, rfl⟩ := later_of h9
      go_simp; try with_reducible rfl
    try simp only [Act.put, List.setIfInBounds_toArray, List.set_cons_zero, List.set_cons_succ]
    refine restS_take (v := ?_) 6 rfl (by kernel_rfl) (by kernel_rfl) (by kernel_rfl) (fun _ _ _ h => h) (by rfl) ?_ ?_
    rotate_left
    · intro w9 h9; try dsimp only at h9
      go_split_ands
      go_simp; try with_reducible rfl
    try simp only [Act.put, List.setIfInBounds_toArray, List.set_cons_zero, List.set_cons_succ]
    refine restS_take (v := ?_) 7 rfl (by kernel_rfl) (by kernel_rfl) (by kernel_rfl) (fun _ _ _ h => h) (by rfl) ?_ ?_
    rotate_left
    · intro w9 h9; try dsimp only at h9
      go_split_ands
      go_simp; try with_reducible rfl
    try simp only [Act.put, List.setIfInBounds_toArray, List.set_cons_zero, List.set_cons_succ]
    refine restS_take (v := ?_) 8 rfl (by kernel_rfl) (by kernel_rfl) (by kernel_rfl) (fun _ _ _ h => h) (by rfl) ?_ ?_
    rotate_left
    · intro w9 h9; try dsimp only at h9
      obtain ⟨x9, rfl⟩ := later_of h9
      go_simp; try with_reducible rfl
    try simp only [Act.put, List.setIfInBounds_toArray, List.set_cons_zero, List.set_cons_succ]
    refine restS_take (v := ?_) 9 rfl (by kernel_rfl) (by kernel_rfl) (by kernel_rfl) (fun _ _ _ h => h) (by rfl) ?_ ?_
    rotate_left
    · intro w9 h9; try dsimp only at h9
      go_split_ands
      go_simp; try with_reducible rfl
    try simp only [Act.put, List.setIfInBounds_toArray, List.set_cons_zero, List.set_cons_succ]
    refine restS_take (v := ?_) 10 rfl (by kernel_rfl) (by kernel_rfl) (by kernel_rfl) (fun _ _ _ h => h) (by rfl) ?_ ?_
    rotate_left
    · intro w9 h9; try dsimp only at h9
      go_split_ands
      go_simp; try with_reducible rfl
    try simp only [Act.put, List.setIfInBounds_toArray, List.set_cons_zero, List.set_cons_succ]
    refine restS_take (v := ?_) 11 rfl (by kernel_rfl) (by kernel_rfl) (by kernel_rfl) (fun _ _ _ h => h) (by rfl) ?_ ?_
    rotate_left
    · intro w9 h9; try dsimp only at h9
      obtain ⟨x9, rfl⟩ := later_of h9
      go_simp; try with_reducible rfl
    try simp only [Act.put, List.setIfInBounds_toArray, List.set_cons_zero, List.set_cons_succ]
    refine restS_take (v := ?_) 12 rfl (by kernel_rfl) (by kernel_rfl) (by kernel_rfl) (fun _ _ _ h => h) (by rfl) ?_ ?_
    rotate_left
    · intro w9 h9; try dsimp only at h9
      obtain ⟨x9, rfl⟩ := later_of h9
      go_simp; try with_reducible rfl
    try simp only [Act.put, List.setIfInBounds_toArray, List.set_cons_zero, List.set_cons_succ]
    refine restS_take (v := ?_) 13 rfl (by kernel_rfl) (by kernel_rfl) (by kernel_rfl) (fun _ _ _ h => h) (by rfl) ?_ ?_
    rotate_left
    · intro w9 h9; try dsimp only at h9
      go_split_ands
      go_simp; try with_reducible rfl
    try simp only [Act.put, List.setIfInBounds_toArray, List.set_cons_zero, List.set_cons_succ]
    refine restS_alone 14 rfl (by kernel_rfl) (by rfl) (fun hS K hK => ?_)
    go_wp2_with fail
    refine hK.out _ _ (by (repeat (first | with_reducible exact Below.refl _ _ | ((with_reducible refine bl_alloc ?_ ?_); (focus (first | (simp; done) | (simp; omega) | omega))) | ((with_reducible refine bl_set ?_ ?_); (focus (first | (simp; done) | (simp; omega) | omega))) | ((with_reducible refine bl_later ?_ ?_); (focus (first | (simp; done) | (simp; omega) | omega))) | with_reducible refine bl_drew ?_ | with_reducible refine bl_drewN ?_ | ((with_reducible refine bl_step (by assumption) ?_ ?_); (focus (first | (simp; done) | (simp; omega) | omega)))))) ?_
    try simp only [Act.put, List.setIfInBounds_toArray, List.set_cons_zero, List.set_cons_succ]
    clear hK K hS
    refine restS_alone 15 rfl (by kernel_rfl) (by rfl) (fun hS K hK => ?_)
    go_wp2_with fail
    refine hK.out _ _ (by (repeat (first | with_reducible exact Below.refl _ _ | ((with_reducible refine bl_alloc ?_ ?_); (focus (first | (simp; done) | (simp; omega) | omega))) | ((with_reducible refine bl_set ?_ ?_); (focus (first | (simp; done) | (simp; omega) | omega))) | ((with_reducible refine bl_later ?_ ?_); (focus (first | (simp; done) | (simp; omega) | omega))) | with_reducible refine bl_drew ?_ | with_reducible refine bl_drewN ?_ | ((with_reducible refine bl_step (by assumption) ?_ ?_); (focus (first | (simp; done) | (simp; omega) | omega)))))) ?_
    try simp only [Act.put, List.setIfInBounds_toArray, List.set_cons_zero, List.set_cons_succ]
    clear hK K hS
    refine restS_done (by kernel_rfl) (fun hS => ?_)
    clear hS
    have Bz2 := ((Bz.alloc (.cells #[.int .i64 0, .int .i64 0, .int .i64 0, .int .i64 0, .int .i64 0] 68)).alloc (.cells #[.int .i64 i, .int .i64 t, .int .i64 c, .int .i64 s, .int .i64 0, .int .i64 0, .int .i64 0, .int .i64 0, .int .i64 0] 70)).drew
    have Fz2 := ((Fz.alloc (.cells #[.int .i64 0, .int .i64 0, .int .i64 0, .int .i64 0, .int .i64 0] 68)).alloc (.cells #[.int .i64 i, .int .i64 t, .int .i64 c, .int .i64 s, .int .i64 0, .int .i64 0, .int .i64 0, .int .i64 0, .int .i64 0] 70)).drew
    have By2 := (Bx.new (w1.alloc (.cells #[.int .i64 0, .int .i64 0, .int .i64 0, .int .i64 0, .int .i64 0] 68)) [.int .i64 i, .int .i64 t, .int .i64 c, .int .i64 s, .int .i64 0, .int .i64 0, .int .i64 0, .int .i64 0, .int .i64 0] 70).drew
    rw [World.size_alloc] at By2
    have q0 := Bz2.2
    have q1 := Fz2.2
    have q2 := By2.2
    have hw2 : Below w.heap.size w ((w1.alloc (.cells #[.int .i64 0, .int .i64 0, .int .i64 0, .int .i64 0, .int .i64 0] 68)).alloc (.cells #[.int .i64 i, .int .i64 t, .int .i64 c, .int .i64 s, .int .i64 0, .int .i64 0, .int .i64 0, .int .i64 0, .int .i64 0] 70)).drew := ((hw1.alloc hw1.size _).alloc (by have := hw1.size; simp; omega) _).drew
    clear q0 q1 q2 Bz2 Fz2 By2 hw2
    have q0 := Bz.2
    have q1 := Fz.2
    have hs1 : w.heap.size < w1.heap.size := by omega
    have hs2 : w.heap.size < w1.heap.size + 1 := by omega
    go_wp2_with fail
    refine bodyPost_ret (v := .tuple #[.agg #[.int .i64 0, .int .i64 0, .int .i64 0, .int .i64 0, .int .i64 0, .int .i64 0, .int .i64 0, .int .i64 0, .int .i64 0], .bool false]) (by simp [results, Try.results147, go_sem, *]) rfl ⟨rfl, ?_⟩
    (repeat (first | with_reducible exact Below.refl _ _ | ((with_reducible refine bl_alloc ?_ ?_); (focus (first | (simp; done) | (simp; omega) | omega))) | ((with_reducible refine bl_set ?_ ?_); (focus (first | (simp; done) | (simp; omega) | omega))) | ((with_reducible refine bl_later ?_ ?_); (focus (first | (simp; done) | (simp; omega) | omega))) | with_reducible refine bl_drew ?_ | with_reducible refine bl_drewN ?_ | ((with_reducible refine bl_step (by assumption) ?_ ?_); (focus (first | (simp; done) | (simp; omega) | omega)))))
  · skip
    go_enter Try.func147, Try.ntmps147
    go_wp2_with (go_at_call 126; refine (c_spec_RowOp_t _ _ k a b x y _ (Hh4.out.below (by (repeat (first | with_reducible exact Below.refl _ _ | ((with_reducible refine bl_alloc ?_ ?_); (focus (first | (simp; done) | (simp; omega) | omega))) | ((with_reducible refine bl_set ?_ ?_); (focus (first | (simp; done) | (simp; omega) | omega))) | ((with_reducible refine bl_later ?_ ?_); (focus (first | (simp; done) | (simp; omega) | omega))) | with_reducible refine bl_drew ?_ | with_reducible refine bl_drewN ?_ | ((with_reducible refine bl_step (by assumption) ?_ ?_); (focus (first | (simp; done) | (simp; omega) | omega))))))) hO).mono ?_; rintro e w1 ⟨rfl, hb1⟩; have hz1 := hb1.size; (try simp only [World.size_alloc] at hz1); have Bz := (Bx.new w [.int .i64 0, .int .i64 0, .int .i64 0, .int .i64 0, .int .i64 0, .int .i64 0, .int .i64 0, .int .i64 0, .int .i64 0] 70).below hb1; have Fz := (Fx.new w [.int .i64 0, .int .i64 0, .int .i64 0, .int .i64 0, .int .i64 0, .int .i64 0, .int .i64 0, .int .i64 0, .int .i64 0] 70).below hb1; have hw1 := bl_step hb1 (by simp) ((Below.refl _ w).alloc (Nat.le_refl _) _); clear hb1)
    have j0 := (hw1.cell (p := ⟨b0, off, none⟩) hbl).trans k0
    have j1 := (hw1.cell (p := ⟨b0, off + 1, none⟩) hbl).trans k1
    have j2 := (hw1.cell (p := ⟨b0, off + 2, none⟩) hbl).trans k2
    have j3 := (hw1.cell (p := ⟨b0, off + 3, none⟩) hbl).trans k3
    have hbl1 : b0 < w1.heap.size := by omega
    have hbl2 : b0 < w1.heap.size + 1 := by omega
    clear k0 k1 k2 k3
    refine restS_begin (fun W => Below (w1.alloc (.cells #[.int .i64 k, .int .i64 a, .int .i64 b, .int .i64 x, .int .i64 y] 68)).heap.size (w1.alloc (.cells #[.int .i64 k, .int .i64 a, .int .i64 b, .int .i64 x, .int .i64 y] 68)) W) (by kernel_rfl) (by (repeat (first | with_reducible exact Below.refl _ _ | ((with_reducible refine bl_alloc ?_ ?_); (focus (first | (simp; done) | (simp; omega) | omega))) | ((with_reducible refine bl_set ?_ ?_); (focus (first | (simp; done) | (simp; omega) | omega))) | ((with_reducible refine bl_later ?_ ?_); (focus (first | (simp; done) | (simp; omega) | omega))) | with_reducible refine bl_drew ?_ | with_reducible refine bl_drewN ?_ | ((with_reducible refine bl_step (by assumption) ?_ ?_); (focus (first | (simp; done) | (simp; omega) | omega)))))) ?_
    refine restS_take (v := ?_) 0 rfl (by kernel_rfl) (by kernel_rfl) (by kernel_rfl) (fun _ _ _ h => h) (by rfl) ?_ ?_
    rotate_left
    · intro w9 h9; try dsimp only at h9
      go_split_ands
      go_simp; try with_reducible rfl
    try simp only [Act.put, List.setIfInBounds_toArray, List.set_cons_zero, List.set_cons_succ]
    refine restS_take (v := ?_) 1 rfl (by kernel_rfl) (by kernel_rfl) (by kernel_rfl) (fun _ _ _ h => h) (by rfl) ?_ ?_
    rotate_left
    · intro w9 h9; try dsimp only at h9
      go_split_ands
      go_simp; try with_reducible rfl
    try simp only [Act.put, List.setIfInBounds_toArray, List.set_cons_zero, List.set_cons_succ]
    refine restS_take (v := ?_) 2 rfl (by kernel_rfl) (by kernel_rfl) (by kernel_rfl) (fun _ _ _ h => h) (by rfl) ?_ ?_
    rotate_left
    · intro w9 h9; try dsimp only at h9
      obtain ⟨x9, rfl⟩ := later_of h9
      go_simp; try with_reducible rfl
    try simp only [Act.put, List.setIfInBounds_toArray, List.set_cons_zero, List.set_cons_succ]
    refine restS_take (v := ?_) 3 rfl (by kernel_rfl) (by kernel_rfl) (by kernel_rfl) (fun _ _ _ h => h) (by rfl) ?_ ?_
    rotate_left
    · intro w9 h9; try dsimp only at h9
      go_split_ands
      go_simp; try with_reducible rfl
    try simp only [Act.put, List.setIfInBounds_toArray, List.set_cons_zero, List.set_cons_succ]
    refine restS_take (v := ?_) 4 rfl (by kernel_rfl) (by kernel_rfl) (by kernel_rfl) (fun _ _ _ h => h) (by rfl) ?_ ?_
    rotate_left
    · intro w9 h9; try dsimp only at h9
      go_split_ands
      go_simp; try with_reducible rfl
    try simp only [Act.put, List.setIfInBounds_toArray, List.set_cons_zero, List.set_cons_succ]
    refine restS_take (v := ?_) 5 rfl (by kernel_rfl) (by kernel_rfl) (by kernel_rfl) (fun _ _ _ h => h) (by rfl) ?_ ?_
    rotate_left
    · intro w9 h9; try dsimp only at h9
      obtain ⟨x9, rfl⟩ := later_of h9
      go_simp; try with_reducible rfl
    try simp only [Act.put, List.setIfInBounds_toArray, List.set_cons_zero, List.set_cons_succ]
    refine restS_take (v := ?_) 6 rfl (by kernel_rfl) (by kernel_rfl) (by kernel_rfl) (fun _ _ _ h => h) (by rfl) ?_ ?_
    rotate_left
    · intro w9 h9; try dsimp only at h9
      go_split_ands
      go_simp; try with_reducible rfl
    try simp only [Act.put, List.setIfInBounds_toArray, List.set_cons_zero, List.set_cons_succ]
    refine restS_take (v := ?_) 7 rfl (by kernel_rfl) (by kernel_rfl) (by kernel_rfl) (fun _ _ _ h => h) (by rfl) ?_ ?_
    rotate_left
    · intro w9 h9; try dsimp only at h9
      go_split_ands
      go_simp; try with_reducible rfl
    try simp only [Act.put, List.setIfInBounds_toArray, List.set_cons_zero, List.set_cons_succ]
    refine restS_take (v := ?_) 8 rfl (by kernel_rfl) (by kernel_rfl) (by kernel_rfl) (fun _ _ _ h => h) (by rfl) ?_ ?_
    rotate_left
    · intro w9 h9; try dsimp only at h9
      obtain ⟨x9, rfl⟩ := later_of h9
      go_simp; try with_reducible rfl
    try simp only [Act.put, List.setIfInBounds_toArray, List.set_cons_zero, List.set_cons_succ]
    refine restS_take (v := ?_) 9 rfl (by kernel_rfl) (by kernel_rfl) (by kernel_rfl) (fun _ _ _ h => h) (by rfl) ?_ ?_
    rotate_left
    · intro w9 h9; try dsimp only at h9
      go_split_ands
      go_simp; try with_reducible rfl
    try simp only [Act.put, List.setIfInBounds_toArray, List.set_cons_zero, List.set_cons_succ]
    refine restS_take (v := ?_) 10 rfl (by kernel_rfl) (by kernel_rfl) (by kernel_rfl) (fun _ _ _ h => h) (by rfl) ?_ ?_
    rotate_left
    · intro w9 h9; try dsimp only at h9
      go_split_ands
      go_simp; try with_reducible rfl
    try simp only [Act.put, List.setIfInBounds_toArray, List.set_cons_zero, List.set_cons_succ]
    refine restS_take (v := ?_) 11 rfl (by kernel_rfl) (by kernel_rfl) (by kernel_rfl) (fun _ _ _ h => h) (by rfl) ?_ ?_
    rotate_left
    · intro w9 h9; try dsimp only at h9
      obtain ⟨x9, rfl⟩ := later_of h9
      go_simp; try with_reducible rfl
    try simp only [Act.put, List.setIfInBounds_toArray, List.set_cons_zero, List.set_cons_succ]
    refine restS_take (v := ?_) 12 rfl (by kernel_rfl) (by kernel_rfl) (by kernel_rfl) (fun _ _ _ h => h) (by rfl) ?_ ?_
    rotate_left
    · intro w9 h9; try dsimp only at h9
      obtain ⟨x9, rfl⟩ := later_of h9
      go_simp; try with_reducible rfl
    try simp only [Act.put, List.setIfInBounds_toArray, List.set_cons_zero, List.set_cons_succ]
    refine restS_take (v := ?_) 13 rfl (by kernel_rfl) (by kernel_rfl) (by kernel_rfl) (fun _ _ _ h => h) (by rfl) ?_ ?_
    rotate_left
    · intro w9 h9; try dsimp only at h9
      go_split_ands
      go_simp; try with_reducible rfl
    try simp only [Act.put, List.setIfInBounds_toArray, List.set_cons_zero, List.set_cons_succ]
    refine restS_alone 14 rfl (by kernel_rfl) (by rfl) (fun hS K hK => ?_)
    go_wp2_with fail
    refine hK.out _ _ (by (repeat (first | with_reducible exact Below.refl _ _ | ((with_reducible refine bl_alloc ?_ ?_); (focus (first | (simp; done) | (simp; omega) | omega))) | ((with_reducible refine bl_set ?_ ?_); (focus (first | (simp; done) | (simp; omega) | omega))) | ((with_reducible refine bl_later ?_ ?_); (focus (first | (simp; done) | (simp; omega) | omega))) | with_reducible refine bl_drew ?_ | with_reducible refine bl_drewN ?_ | ((with_reducible refine bl_step (by assumption) ?_ ?_); (focus (first | (simp; done) | (simp; omega) | omega)))))) ?_
    try simp only [Act.put, List.setIfInBounds_toArray, List.set_cons_zero, List.set_cons_succ]
    clear hK K hS
    refine restS_alone 15 rfl (by kernel_rfl) (by rfl) (fun hS K hK => ?_)
    go_wp2_with fail
    refine hK.out _ _ (by (repeat (first | with_reducible exact Below.refl _ _ | ((with_reducible refine bl_alloc ?_ ?_); (focus (first | (simp; done) | (simp; omega) | omega))) | ((with_reducible refine bl_set ?_ ?_); (focus (first | (simp; done) | (simp; omega) | omega))) | ((with_reducible refine bl_later ?_ ?_); (focus (first | (simp; done) | (simp; omega) | omega))) | with_reducible refine bl_drew ?_ | with_reducible refine bl_drewN ?_ | ((with_reducible refine bl_step (by assumption) ?_ ?_); (focus (first | (simp; done) | (simp; omega) | omega)))))) ?_
    try simp only [Act.put, List.setIfInBounds_toArray, List.set_cons_zero, List.set_cons_succ]
    clear hK K hS
    refine restS_done (by kernel_rfl) (fun hS => ?_)
    clear hS
    have Bz2 := ((Bz.alloc (.cells #[.int .i64 k, .int .i64 a, .int .i64 b, .int .i64 x, .int .i64 y] 68)).alloc (.cells #[.int .i64 i, .int .i64 t, .int .i64 c, .int .i64 s, .int .i64 k, .int .i64 a, .int .i64 b, .int .i64 x, .int .i64 y] 70)).drew
    have Fz2 := ((Fz.alloc (.cells #[.int .i64 k, .int .i64 a, .int .i64 b, .int .i64 x, .int .i64 y] 68)).alloc (.cells #[.int .i64 i, .int .i64 t, .int .i64 c, .int .i64 s, .int .i64 k, .int .i64 a, .int .i64 b, .int .i64 x, .int .i64 y] 70)).drew
    have By2 := (Bx.new (w1.alloc (.cells #[.int .i64 k, .int .i64 a, .int .i64 b, .int .i64 x, .int .i64 y] 68)) [.int .i64 i, .int .i64 t, .int .i64 c, .int .i64 s, .int .i64 k, .int .i64 a, .int .i64 b, .int .i64 x, .int .i64 y] 70).drew
    rw [World.size_alloc] at By2
    have q0 := Bz2.2
    have q1 := Fz2.2
    have q2 := By2.2
    have hw2 : Below w.heap.size w ((w1.alloc (.cells #[.int .i64 k, .int .i64 a, .int .i64 b, .int .i64 x, .int .i64 y] 68)).alloc (.cells #[.int .i64 i, .int .i64 t, .int .i64 c, .int .i64 s, .int .i64 k, .int .i64 a, .int .i64 b, .int .i64 x, .int .i64 y] 70)).drew := ((hw1.alloc hw1.size _).alloc (by have := hw1.size; simp; omega) _).drew
    go_wp2_with (go_at_call 154; refine (c_spec_EntryOk i t c s k a b x y _).mono ?_; rintro e w2 ⟨rfl, hb2⟩; clear q0 q1 q2; have q0 := (Bz2.below hb2).2; have q1 := (Fz2.below hb2).2; have q2 := (By2.below hb2).2; have hw3 := bl_step hb2 hw2.size hw2; have hz2 := hb2.size; simp only [World.size_drew, World.size_alloc] at hz2)
    refine bodyPost_ret (v := .tuple #[.agg #[.int .i64 0, .int .i64 0, .int .i64 0, .int .i64 0, .int .i64 0, .int .i64 0, .int .i64 0, .int .i64 0, .int .i64 0], .bool false]) (by simp [results, Try.results147, go_sem, *]) rfl ⟨rfl, ?_⟩
    (repeat (first | with_reducible exact Below.refl _ _ | ((with_reducible refine bl_alloc ?_ ?_); (focus (first | (simp; done) | (simp; omega) | omega))) | ((with_reducible refine bl_set ?_ ?_); (focus (first | (simp; done) | (simp; omega) | omega))) | ((with_reducible refine bl_later ?_ ?_); (focus (first | (simp; done) | (simp; omega) | omega))) | with_reducible refine bl_drew ?_ | with_reducible refine bl_drewN ?_ | ((with_reducible refine bl_step (by assumption) ?_ ?_); (focus (first | (simp; done) | (simp; omega) | omega)))))

end Go.Proofs.Ytpfkfppooeikeaa
