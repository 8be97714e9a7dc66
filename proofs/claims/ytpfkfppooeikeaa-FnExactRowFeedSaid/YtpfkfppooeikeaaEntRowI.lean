/- Walks of functions of the program, printed by a program of the prover. -/
import Derived.Test.YtpfkfppooeikeaaRowAskC
import Derived.Test.YtpfkfppooeikeaaEnt
import Derived.Test.YtpfkfppooeikeaaCut
import Derived.WalkKit
import Derived.WalkSpells
import Derived.Deep.QuietTactic
import Derived.BigQuiet
import Derived.Deep.Light
import Derived.Lib.Hide
import Derived.Deep.RegionHeld3
namespace Go.Proofs.Ytpfkfppooeikeaa
open Go.ChangeShapes Go.WideShapes Go.ChangeAt Go.RowKit Go.Deep
set_option maxHeartbeats 1600000
set_option maxRecDepth 100000
theorem c_impl_RowEntry_t (ao : Option Addr) (cap : Nat) (i t c s k a b x y : Int) (w : World) (hh : IntsR w ao [i, t, c, s, k, a, b, x, y]) (hcap : 9 ≤ cap) (hE : entryOk i t c s k a b x y = true) :
    Calls Try.prog 142 #[.slice ao 9 cap] w fun e w' => e = .returned (.tuple #[.agg #[.int .i64 i, .int .i64 t, .int .i64 c, .int .i64 s, .int .i64 k, .int .i64 a, .int .i64 b, .int .i64 x, .int .i64 y], .bool true]) ∧ Below w.heap.size w w' := by
  obtain ⟨b0, off, rfl, hbl, hr0, hc⟩ := hh.at (k := 0) (by simp)
  have k0 := hc 0 (by simp)
  have k1 := hc 1 (by simp)
  have k2 := hc 2 (by simp)
  have k3 := hc 3 (by simp)
  simp only [List.getElem_cons_zero, List.getElem_cons_succ, Nat.add_zero] at k0 k1 k2 k3
  have hh4 : IntsR w (some ⟨b0, off + 4, none⟩) [k, a, b, x, y] := hh.tail.tail.tail.tail
  clear hc hh hr0
  have hcap4 : (4 : Int) ≤ cap := by omega
  have hbl1 : b0 < w.heap.size + 1 := by omega
  have Hh4 := Lib.hid hh4
  clear hh4
  go_enter Try.func142, Try.ntmps142
  go_wp2_with fail
  have Bz := (Bx.new w [.int .i64 0, .int .i64 0, .int .i64 0, .int .i64 0, .int .i64 0, .int .i64 0, .int .i64 0, .int .i64 0, .int .i64 0] 70).drew
  have Fz := (Fx.new w [.int .i64 0, .int .i64 0, .int .i64 0, .int .i64 0, .int .i64 0, .int .i64 0, .int .i64 0, .int .i64 0, .int .i64 0] 70).drew
  have hh4 := Hh4.out
  refine restS_begin (fun W => Below w.heap.size w W) (by kernel_rfl) (by (repeat (first | with_reducible exact Below.refl _ _ | ((with_reducible refine bl_alloc ?_ ?_); (focus (first | (simp; done) | (simp; omega) | omega))) | ((with_reducible refine bl_set ?_ ?_); (focus (first | (simp; done) | (simp; omega) | omega))) | ((with_reducible refine bl_later ?_ ?_); (focus (first | (simp; done) | (simp; omega) | omega))) | with_reducible refine bl_drew ?_ | with_reducible refine bl_drewN ?_ | ((with_reducible refine bl_step (by assumption) ?_ ?_); (focus (first | (simp; done) | (simp; omega) | omega)))))) ?_
  refine restS_take (v := ?_) 0 rfl (by kernel_rfl) (by kernel_rfl) (by kernel_rfl) (fun _ _ _ h => h) (by rfl) ?_ ?_
  rotate_left
  · intro w9 h9; try dsimp only at h9
    go_split_ands
    go_simp; try with_reducible rfl
  try simp only [Act.put, List.setIfInBounds_toArray, List.set_cons_zero, List.set_cons_succ]
  refine restS_take (v := ?_) 1 rfl (by kernel_rfl) (by kernel_rfl) (by kernel_rfl) (fun _ _ _ h => h) (by rfl) ?_ ?_
  rotate_left
  · intro w9 h9; try dsimp only at h9
    go_split_ands
    go_simp; try with_reducible rfl
  try simp only [Act.put, List.setIfInBounds_toArray, List.set_cons_zero, List.set_cons_succ]
  refine restS_take (v := ?_) 2 rfl (by kernel_rfl) (by kernel_rfl) (by kernel_rfl) (fun _ _ _ h => h) (by rfl) ?_ ?_
  rotate_left
  · intro w9 h9; try dsimp only at h9
    obtain ⟨x9, rfl⟩ := later_of h9
    go_simp; try with_reducible rfl
  try simp only [Act.put, List.setIfInBounds_toArray, List.set_cons_zero, List.set_cons_succ]
  refine restS_take (v := ?_) 3 rfl (by kernel_rfl) (by kernel_rfl) (by kernel_rfl) (fun _ _ _ h => h) (by rfl) ?_ ?_
  rotate_left
  · intro w9 h9; try dsimp only at h9
    go_split_ands
    go_simp; try with_reducible rfl
  try simp only [Act.put, List.setIfInBounds_toArray, List.set_cons_zero, List.set_cons_succ]
  refine restS_take (v := ?_) 4 rfl (by kernel_rfl) (by kernel_rfl) (by kernel_rfl) (fun _ _ _ h => h) (by rfl) ?_ ?_
  rotate_left
  · intro w9 h9; try dsimp only at h9
    go_split_ands
    go_simp; try with_reducible rfl
  try simp only [Act.put, List.setIfInBounds_toArray, List.set_cons_zero, List.set_cons_succ]
  refine restS_take (v := ?_) 5 rfl (by kernel_rfl) (by kernel_rfl) (by kernel_rfl) (fun _ _ _ h => h) (by rfl) ?_ ?_
  rotate_left
  · intro w9 h9; try dsimp only at h9
    obtain ⟨x9, rfl⟩ := later_of h9
    go_simp; try with_reducible rfl
  try simp only [Act.put, List.setIfInBounds_toArray, List.set_cons_zero, List.set_cons_succ]
  refine restS_take (v := ?_) 6 rfl (by kernel_rfl) (by kernel_rfl) (by kernel_rfl) (fun _ _ _ h => h) (by rfl) ?_ ?_
  rotate_left
  · intro w9 h9; try dsimp only at h9
    go_split_ands
    go_simp; try with_reducible rfl
  try simp only [Act.put, List.setIfInBounds_toArray, List.set_cons_zero, List.set_cons_succ]
  refine restS_take (v := ?_) 7 rfl (by kernel_rfl) (by kernel_rfl) (by kernel_rfl) (fun _ _ _ h => h) (by rfl) ?_ ?_
  rotate_left
  · intro w9 h9; try dsimp only at h9
    go_split_ands
    go_simp; try with_reducible rfl
  try simp only [Act.put, List.setIfInBounds_toArray, List.set_cons_zero, List.set_cons_succ]
  refine restS_take (v := ?_) 8 rfl (by kernel_rfl) (by kernel_rfl) (by kernel_rfl) (fun _ _ _ h => h) (by rfl) ?_ ?_
  rotate_left
  · intro w9 h9; try dsimp only at h9
    obtain ⟨x9, rfl⟩ := later_of h9
    go_simp; try with_reducible rfl
  try simp only [Act.put, List.setIfInBounds_toArray, List.set_cons_zero, List.set_cons_succ]
  refine restS_take (v := ?_) 9 rfl (by kernel_rfl) (by kernel_rfl) (by kernel_rfl) (fun _ _ _ h => h) (by rfl) ?_ ?_
  rotate_left
  · intro w9 h9; try dsimp only at h9
    go_split_ands
    go_simp; try with_reducible rfl
  try simp only [Act.put, List.setIfInBounds_toArray, List.set_cons_zero, List.set_cons_succ]
  refine restS_take (v := ?_) 10 rfl (by kernel_rfl) (by kernel_rfl) (by kernel_rfl) (fun _ _ _ h => h) (by rfl) ?_ ?_
  rotate_left
  · intro w9 h9; try dsimp only at h9
    go_split_ands
    go_simp; try with_reducible rfl
  try simp only [Act.put, List.setIfInBounds_toArray, List.set_cons_zero, List.set_cons_succ]
  refine restS_take (v := ?_) 11 rfl (by kernel_rfl) (by kernel_rfl) (by kernel_rfl) (fun _ _ _ h => h) (by rfl) ?_ ?_
  rotate_left
  · intro w9 h9; try dsimp only at h9
    obtain ⟨x9, rfl⟩ := later_of h9
    go_simp; try with_reducible rfl
  try simp only [Act.put, List.setIfInBounds_toArray, List.set_cons_zero, List.set_cons_succ]
  refine restS_take (v := ?_) 12 rfl (by kernel_rfl) (by kernel_rfl) (by kernel_rfl) (fun _ _ _ h => h) (by rfl) ?_ ?_
  rotate_left
  · intro w9 h9; try dsimp only at h9
    go_split_ands
    go_simp; try with_reducible rfl
  try simp only [Act.put, List.setIfInBounds_toArray, List.set_cons_zero, List.set_cons_succ]
  refine restS_take (v := ?_) 13 rfl (by kernel_rfl) (by kernel_rfl) (by kernel_rfl) (fun _ _ _ h => h) (by rfl) ?_ ?_
  rotate_left
  · intro w9 h9; try dsimp only at h9
    go_split_ands
    go_simp; try with_reducible rfl
  try simp only [Act.put, List.setIfInBounds_toArray, List.set_cons_zero, List.set_cons_succ]
  refine restS_two 14 16 rfl rfl (by kernel_rfl) (by rfl) (by rfl) (fun hS K hK => ?_) (fun hS K hK => ?_)
  · skip
    go_wp2_with fail
    refine (c_impl_opOf _ _ k a b x y _ (hh4.below hS)).mono ?_
    rintro e w4 ⟨rfl, hb4⟩
    go_wp2_with fail
    have hSx := bl_step hb4 hS.size hS
    replace Bz := Bz.below hb4
    replace Fz := Fz.below hb4
    refine hK.out _ _ hSx ?_
    try simp only [Act.put, List.setIfInBounds_toArray, List.set_cons_zero, List.set_cons_succ]
    clear hK K hS
    clear hSx
    refine restS_take (v := ?_) 15 rfl (by kernel_rfl) (by kernel_rfl) (by kernel_rfl) (fun _ _ _ h => h) (by rfl) ?_ ?_
    rotate_left
    · intro w9 h9; try dsimp only at h9
      go_split_ands
      go_simp; try with_reducible rfl
    try simp only [Act.put, List.setIfInBounds_toArray, List.set_cons_zero, List.set_cons_succ]
    refine restS_alone 16 rfl (by kernel_rfl) (by rfl) (fun hS K hK => ?_)
    go_wp2_with fail
    have hS4 := hS
    have Bz4 := Bz
    have Fz4 := Fz
    refine hK.out _ _ (hS.alloc hS.size (.cells ([.int .i64 0, .int .i64 0, .int .i64 0, .int .i64 0, .int .i64 0, .int .i64 0, .int .i64 0, .int .i64 0, .int .i64 0] : List Value).toArray 70)) ?_
    try simp only [Act.put, List.setIfInBounds_toArray, List.set_cons_zero, List.set_cons_succ]
    clear hK K hS
    refine restS_alone 17 rfl (by kernel_rfl) (by rfl) (fun hS K hK => ?_)
    go_wp2_with fail
    replace Bz := Bz4.alloc (.cells ([.int .i64 i, .int .i64 t, .int .i64 c, .int .i64 s, .int .i64 k, .int .i64 a, .int .i64 b, .int .i64 x, .int .i64 y] : List Value).toArray 70)
    replace Fz := Fz4.alloc (.cells ([.int .i64 i, .int .i64 t, .int .i64 c, .int .i64 s, .int .i64 k, .int .i64 a, .int .i64 b, .int .i64 x, .int .i64 y] : List Value).toArray 70)
    have By := Bx.new w4 [.int .i64 i, .int .i64 t, .int .i64 c, .int .i64 s, .int .i64 k, .int .i64 a, .int .i64 b, .int .i64 x, .int .i64 y] 70
    refine hK.out _ _ (hS4.alloc hS4.size (.cells ([.int .i64 i, .int .i64 t, .int .i64 c, .int .i64 s, .int .i64 k, .int .i64 a, .int .i64 b, .int .i64 x, .int .i64 y] : List Value).toArray 70)) ?_
    try simp only [Act.put, List.setIfInBounds_toArray, List.set_cons_zero, List.set_cons_succ]
    clear hK K hS
    refine restS_done (by kernel_rfl) (fun hS => ?_)
    have q2 := By.2
    go_wp2_with (go_at_call 156; refine (c_impl_EntryOk i t c s k a b x y _).mono ?_; rintro e w2 ⟨rfl, hb2⟩; clear q2; have q0 := (Bz.below hb2).2; have q1 := (Fz.below hb2).2; have q2 := (By.below hb2).2; have hw3 := bl_step hb2 hS.size hS; have hz2 := Nat.lt_of_lt_of_le Bz.1 hb2.size)
    refine bodyPost_ret (v := .tuple #[.agg #[.int .i64 i, .int .i64 t, .int .i64 c, .int .i64 s, .int .i64 k, .int .i64 a, .int .i64 b, .int .i64 x, .int .i64 y], .bool true]) (by simp [results, Try.results142, go_sem, *]) rfl ⟨rfl, ?_⟩
    (repeat (first | with_reducible exact Below.refl _ _ | ((with_reducible refine bl_alloc ?_ ?_); (focus (first | (simp; done) | (simp; omega) | omega))) | ((with_reducible refine bl_set ?_ ?_); (focus (first | (simp; done) | (simp; omega) | omega))) | ((with_reducible refine bl_later ?_ ?_); (focus (first | (simp; done) | (simp; omega) | omega))) | with_reducible refine bl_drew ?_ | with_reducible refine bl_drewN ?_ | ((with_reducible refine bl_step (by assumption) ?_ ?_); (focus (first | (simp; done) | (simp; omega) | omega)))))
  · skip
    go_wp2_with fail
    have By := Bx.new (w.alloc (.cells ([.int .i64 0, .int .i64 0, .int .i64 0, .int .i64 0, .int .i64 0, .int .i64 0, .int .i64 0, .int .i64 0, .int .i64 0] : List Value).toArray 70)) [.int .i64 0, .int .i64 0, .int .i64 0, .int .i64 0, .int .i64 0, .int .i64 0, .int .i64 0, .int .i64 0, .int .i64 0] 70 |>.drew
    have Fy := Fx.new (w.alloc (.cells ([.int .i64 0, .int .i64 0, .int .i64 0, .int .i64 0, .int .i64 0, .int .i64 0, .int .i64 0, .int .i64 0, .int .i64 0] : List Value).toArray 70)) [.int .i64 0, .int .i64 0, .int .i64 0, .int .i64 0, .int .i64 0, .int .i64 0, .int .i64 0, .int .i64 0, .int .i64 0] 70 |>.drew
    rw [World.size_alloc] at By Fy
    replace Bz := (Bx.new w [.int .i64 0, .int .i64 0, .int .i64 0, .int .i64 0, .int .i64 0, .int .i64 0, .int .i64 0, .int .i64 0, .int .i64 0] 70).alloc (.cells ([.int .i64 0, .int .i64 0, .int .i64 0, .int .i64 0, .int .i64 0, .int .i64 0, .int .i64 0, .int .i64 0, .int .i64 0] : List Value).toArray 70) |>.drew
    replace Fz := (Fx.new w [.int .i64 0, .int .i64 0, .int .i64 0, .int .i64 0, .int .i64 0, .int .i64 0, .int .i64 0, .int .i64 0, .int .i64 0] 70).alloc (.cells ([.int .i64 0, .int .i64 0, .int .i64 0, .int .i64 0, .int .i64 0, .int .i64 0, .int .i64 0, .int .i64 0, .int .i64 0] : List Value).toArray 70) |>.drew
    refine hK.out _ _ (by (repeat (first | with_reducible exact Below.refl _ _ | ((with_reducible refine bl_alloc ?_ ?_); (focus (first | (simp; done) | (simp; omega) | omega))) | ((with_reducible refine bl_set ?_ ?_); (focus (first | (simp; done) | (simp; omega) | omega))) | ((with_reducible refine bl_later ?_ ?_); (focus (first | (simp; done) | (simp; omega) | omega))) | with_reducible refine bl_drew ?_ | with_reducible refine bl_drewN ?_ | ((with_reducible refine bl_step (by assumption) ?_ ?_); (focus (first | (simp; done) | (simp; omega) | omega)))))) ?_
    try simp only [Act.put, List.setIfInBounds_toArray, List.set_cons_zero, List.set_cons_succ]
    clear hK K hS
    refine restS_alone 14 rfl (by kernel_rfl) (by rfl) (fun hS K hK => ?_)
    go_wp2_with fail
    refine (c_impl_opOf _ _ k a b x y _ (hh4.below hS)).mono ?_
    rintro e w4 ⟨rfl, hb4⟩
    go_wp2_with fail
    have hSx := bl_step hb4 hS.size hS
    replace Bz := Bz.below hb4
    replace Fz := Fz.below hb4
    replace By := By.below hb4
    replace Fy := Fy.below hb4
    refine hK.out _ _ hSx ?_
    try simp only [Act.put, List.setIfInBounds_toArray, List.set_cons_zero, List.set_cons_succ]
    clear hK K hS
    clear hSx
    refine restS_take (v := ?_) 15 rfl (by kernel_rfl) (by kernel_rfl) (by kernel_rfl) (fun _ _ _ h => h) (by rfl) ?_ ?_
    rotate_left
    · intro w9 h9; try dsimp only at h9
      go_split_ands
      go_simp; try with_reducible rfl
    try simp only [Act.put, List.setIfInBounds_toArray, List.set_cons_zero, List.set_cons_succ]
    refine restS_alone 17 rfl (by kernel_rfl) (by rfl) (fun hS K hK => ?_)
    have q0 := By.2
    have q1 := Fy.2
    go_wp2_with fail
    clear q0 q1
    have hS2 := hS
    replace By := By.set 0 (.int .i64 i) (by simp)
    replace Bz := Bz.setOther ⟨w.heap.size + 1, 0, none⟩ (.int .i64 i) (by simp)
    replace Fz := Fz.set ⟨w.heap.size + 1, 0, none⟩ (.int .i64 i)
    replace hS2 := hS2.setCell (p := ⟨w.heap.size + 1, 0, none⟩) (by simp) (.int .i64 i)
    replace By := By.set 1 (.int .i64 t) (by simp)
    replace Bz := Bz.setOther ⟨w.heap.size + 1, 1, none⟩ (.int .i64 t) (by simp)
    replace Fz := Fz.set ⟨w.heap.size + 1, 1, none⟩ (.int .i64 t)
    replace hS2 := hS2.setCell (p := ⟨w.heap.size + 1, 1, none⟩) (by simp) (.int .i64 t)
    replace By := By.set 2 (.int .i64 c) (by simp)
    replace Bz := Bz.setOther ⟨w.heap.size + 1, 2, none⟩ (.int .i64 c) (by simp)
    replace Fz := Fz.set ⟨w.heap.size + 1, 2, none⟩ (.int .i64 c)
    replace hS2 := hS2.setCell (p := ⟨w.heap.size + 1, 2, none⟩) (by simp) (.int .i64 c)
    replace By := By.set 3 (.int .i64 s) (by simp)
    replace Bz := Bz.setOther ⟨w.heap.size + 1, 3, none⟩ (.int .i64 s) (by simp)
    replace Fz := Fz.set ⟨w.heap.size + 1, 3, none⟩ (.int .i64 s)
    replace hS2 := hS2.setCell (p := ⟨w.heap.size + 1, 3, none⟩) (by simp) (.int .i64 s)
    replace By := By.set 4 (.int .i64 k) (by simp)
    replace Bz := Bz.setOther ⟨w.heap.size + 1, 4, none⟩ (.int .i64 k) (by simp)
    replace Fz := Fz.set ⟨w.heap.size + 1, 4, none⟩ (.int .i64 k)
    replace hS2 := hS2.setCell (p := ⟨w.heap.size + 1, 4, none⟩) (by simp) (.int .i64 k)
    replace By := By.set 5 (.int .i64 a) (by simp)
    replace Bz := Bz.setOther ⟨w.heap.size + 1, 5, none⟩ (.int .i64 a) (by simp)
    replace Fz := Fz.set ⟨w.heap.size + 1, 5, none⟩ (.int .i64 a)
    replace hS2 := hS2.setCell (p := ⟨w.heap.size + 1, 5, none⟩) (by simp) (.int .i64 a)
    replace By := By.set 6 (.int .i64 b) (by simp)
    replace Bz := Bz.setOther ⟨w.heap.size + 1, 6, none⟩ (.int .i64 b) (by simp)
    replace Fz := Fz.set ⟨w.heap.size + 1, 6, none⟩ (.int .i64 b)
    replace hS2 := hS2.setCell (p := ⟨w.heap.size + 1, 6, none⟩) (by simp) (.int .i64 b)
    replace By := By.set 7 (.int .i64 x) (by simp)
    replace Bz := Bz.setOther ⟨w.heap.size + 1, 7, none⟩ (.int .i64 x) (by simp)
    replace Fz := Fz.set ⟨w.heap.size + 1, 7, none⟩ (.int .i64 x)
    replace hS2 := hS2.setCell (p := ⟨w.heap.size + 1, 7, none⟩) (by simp) (.int .i64 x)
    replace By := By.set 8 (.int .i64 y) (by simp)
    replace Bz := Bz.setOther ⟨w.heap.size + 1, 8, none⟩ (.int .i64 y) (by simp)
    replace Fz := Fz.set ⟨w.heap.size + 1, 8, none⟩ (.int .i64 y)
    replace hS2 := hS2.setCell (p := ⟨w.heap.size + 1, 8, none⟩) (by simp) (.int .i64 y)
    simp only [List.set_cons_zero, List.set_cons_succ] at By
    refine hK.out _ _ hS2 ?_
    try simp only [Act.put, List.setIfInBounds_toArray, List.set_cons_zero, List.set_cons_succ]
    clear hK K hS
    clear hS2
    refine restS_done (by kernel_rfl) (fun hS => ?_)
    have q2 := By.2
    go_wp2_with (go_at_call 156; refine (c_impl_EntryOk i t c s k a b x y _).mono ?_; rintro e w2 ⟨rfl, hb2⟩; clear q2; have q0 := (Bz.below hb2).2; have q1 := (Fz.below hb2).2; have q2 := (By.below hb2).2; have hw3 := bl_step hb2 hS.size hS; have hz2 := Nat.lt_of_lt_of_le Bz.1 hb2.size)
    refine bodyPost_ret (v := .tuple #[.agg #[.int .i64 i, .int .i64 t, .int .i64 c, .int .i64 s, .int .i64 k, .int .i64 a, .int .i64 b, .int .i64 x, .int .i64 y], .bool true]) (by simp [results, Try.results142, go_sem, *]) rfl ⟨rfl, ?_⟩
    (repeat (first | with_reducible exact Below.refl _ _ | ((with_reducible refine bl_alloc ?_ ?_); (focus (first | (simp; done) | (simp; omega) | omega))) | ((with_reducible refine bl_set ?_ ?_); (focus (first | (simp; done) | (simp; omega) | omega))) | ((with_reducible refine bl_later ?_ ?_); (focus (first | (simp; done) | (simp; omega) | omega))) | with_reducible refine bl_drew ?_ | with_reducible refine bl_drewN ?_ | ((with_reducible refine bl_step (by assumption) ?_ ?_); (focus (first | (simp; done) | (simp; omega) | omega)))))
theorem c_impl_RowEntry_f (ao : Option Addr) (cap : Nat) (i t c s k a b x y : Int) (w : World) (hh : IntsR w ao [i, t, c, s, k, a, b, x, y]) (hcap : 9 ≤ cap) (hE : entryOk i t c s k a b x y = false) :
    Calls Try.prog 142 #[.slice ao 9 cap] w fun e w' => e = .returned (.tuple #[.agg #[.int .i64 0, .int .i64 0, .int .i64 0, .int .i64 0, .int .i64 0, .int .i64 0, .int .i64 0, .int .i64 0, .int .i64 0], .bool false]) ∧ Below w.heap.size w w' := by
  obtain ⟨b0, off, rfl, hbl, hr0, hc⟩ := hh.at (k := 0) (by simp)
  have k0 := hc 0 (by simp)
  have k1 := hc 1 (by simp)
  have k2 := hc 2 (by simp)
  have k3 := hc 3 (by simp)
  simp only [List.getElem_cons_zero, List.getElem_cons_succ, Nat.add_zero] at k0 k1 k2 k3
  have hh4 : IntsR w (some ⟨b0, off + 4, none⟩) [k, a, b, x, y] := hh.tail.tail.tail.tail
  clear hc hh hr0
  have hcap4 : (4 : Int) ≤ cap := by omega
  have hbl1 : b0 < w.heap.size + 1 := by omega
  have Hh4 := Lib.hid hh4
  clear hh4
  go_enter Try.func142, Try.ntmps142
  go_wp2_with fail
  have Bz := (Bx.new w [.int .i64 0, .int .i64 0, .int .i64 0, .int .i64 0, .int .i64 0, .int .i64 0, .int .i64 0, .int .i64 0, .int .i64 0] 70).drew
  have Fz := (Fx.new w [.int .i64 0, .int .i64 0, .int .i64 0, .int .i64 0, .int .i64 0, .int .i64 0, .int .i64 0, .int .i64 0, .int .i64 0] 70).drew
  have hh4 := Hh4.out
  refine restS_begin (fun W => Below w.heap.size w W) (by kernel_rfl) (by (repeat (first | with_reducible exact Below.refl _ _ | ((with_reducible refine bl_alloc ?_ ?_); (focus (first | (simp; done) | (simp; omega) | omega))) | ((with_reducible refine bl_set ?_ ?_); (focus (first | (simp; done) | (simp; omega) | omega))) | ((with_reducible refine bl_later ?_ ?_); (focus (first | (simp; done) | (simp; omega) | omega))) | with_reducible refine bl_drew ?_ | with_reducible refine bl_drewN ?_ | ((with_reducible refine bl_step (by assumption) ?_ ?_); (focus (first | (simp; done) | (simp; omega) | omega)))))) ?_
  refine restS_take (v := ?_) 0 rfl (by kernel_rfl) (by kernel_rfl) (by kernel_rfl) (fun _ _ _ h => h) (by rfl) ?_ ?_
  rotate_left
  · intro w9 h9; try dsimp only at h9
    go_split_ands
    go_simp; try with_reducible rfl
  try simp only [Act.put, List.setIfInBounds_toArray, List.set_cons_zero, List.set_cons_succ]
  refine restS_take (v := ?_) 1 rfl (by kernel_rfl) (by kernel_rfl) (by kernel_rfl) (fun _ _ _ h => h) (by rfl) ?_ ?_
  rotate_left
  · intro w9 h9; try dsimp only at h9
    go_split_ands
    go_simp; try with_reducible rfl
  try simp only [Act.put, List.setIfInBounds_toArray, List.set_cons_zero, List.set_cons_succ]
  refine restS_take (v := ?_) 2 rfl (by kernel_rfl) (by kernel_rfl) (by kernel_rfl) (fun _ _ _ h => h) (by rfl) ?_ ?_
  rotate_left
  · intro w9 h9; try dsimp only at h9
    obtain ⟨x9, rfl⟩ := later_of h9
    go_simp; try with_reducible rfl
  try simp only [Act.put, List.setIfInBounds_toArray, List.set_cons_zero, List.set_cons_succ]
  refine restS_take (v := ?_) 3 rfl (by kernel_rfl) (by kernel_rfl) (by kernel_rfl) (fun _ _ _ h => h) (by rfl) ?_ ?_
  rotate_left
  · intro w9 h9; try dsimp only at h9
    go_split_ands
    go_simp; try with_reducible rfl
  try simp only [Act.put, List.setIfInBounds_toArray, List.set_cons_zero, List.set_cons_succ]
  refine restS_take (v := ?_) 4 rfl (by kernel_rfl) (by kernel_rfl) (by kernel_rfl) (fun _ _ _ h => h) (by rfl) ?_ ?_
  rotate_left
  · intro w9 h9; try dsimp only at h9
    go_split_ands
    go_simp; try with_reducible rfl
  try simp only [Act.put, List.setIfInBounds_toArray, List.set_cons_zero, List.set_cons_succ]
  refine restS_take (v := ?_) 5 rfl (by kernel_rfl) (by kernel_rfl) (by kernel_rfl) (fun _ _ _ h => h) (by rfl) ?_ ?_
  rotate_left
  · intro w9 h9; try dsimp only at h9
    obtain ⟨x9, rfl⟩ := later_of h9
    go_simp; try with_reducible rfl
  try simp only [Act.put, List.setIfInBounds_toArray, List.set_cons_zero, List.set_cons_succ]
  refine restS_take (v := ?_) 6 rfl (by kernel_rfl) (by kernel_rfl) (by kernel_rfl) (fun _ _ _ h => h) (by rfl) ?_ ?_
  rotate_left
  · intro w9 h9; try dsimp only at h9
    go_split_ands
    go_simp; try with_reducible rfl
  try simp only [Act.put, List.setIfInBounds_toArray, List.set_cons_zero, List.set_cons_succ]
  refine restS_take (v := ?_) 7 rfl (by kernel_rfl) (by kernel_rfl) (by kernel_rfl) (fun _ _ _ h => h) (by rfl) ?_ ?_
  rotate_left
  · intro w9 h9; try dsimp only at h9
    go_split_ands
    go_simp; try with_reducible rfl
  try simp only [Act.put, List.setIfInBounds_toArray, List.set_cons_zero, List.set_cons_succ]
  refine restS_take (v := ?_) 8 rfl (by kernel_rfl) (by kernel_rfl) (by kernel_rfl) (fun _ _ _ h => h) (by rfl) ?_ ?_
  rotate_left
  · intro w9 h9; try dsimp only at h9
    obtain ⟨x9, rfl⟩ := later_of h9
    go_simp; try with_reducible rfl
  try simp only [Act.put, List.setIfInBounds_toArray, List.set_cons_zero, List.set_cons_succ]
  refine restS_take (v := ?_) 9 rfl (by kernel_rfl) (by kernel_rfl) (by kernel_rfl) (fun _ _ _ h => h) (by rfl) ?_ ?_
  rotate_left
  · intro w9 h9; try dsimp only at h9
    go_split_ands
    go_simp; try with_reducible rfl
  try simp only [Act.put, List.setIfInBounds_toArray, List.set_cons_zero, List.set_cons_succ]
  refine restS_take (v := ?_) 10 rfl (by kernel_rfl) (by kernel_rfl) (by kernel_rfl) (fun _ _ _ h => h) (by rfl) ?_ ?_
  rotate_left
  · intro w9 h9; try dsimp only at h9
    go_split_ands
    go_simp; try with_reducible rfl
  try simp only [Act.put, List.setIfInBounds_toArray, List.set_cons_zero, List.set_cons_succ]
  refine restS_take (v := ?_) 11 rfl (by kernel_rfl) (by kernel_rfl) (by kernel_rfl) (fun _ _ _ h => h) (by rfl) ?_ ?_
  rotate_left
  · intro w9 h9; try dsimp only at h9
    obtain ⟨x9, rfl⟩ := later_of h9
    go_simp; try with_reducible rfl
  try simp only [Act.put, List.setIfInBounds_toArray, List.set_cons_zero, List.set_cons_succ]
  refine restS_take (v := ?_) 12 rfl (by kernel_rfl) (by kernel_rfl) (by kernel_rfl) (fun _ _ _ h => h) (by rfl) ?_ ?_
  rotate_left
  · intro w9 h9; try dsimp only at h9
    go_split_ands
    go_simp; try with_reducible rfl
  try simp only [Act.put, List.setIfInBounds_toArray, List.set_cons_zero, List.set_cons_succ]
  refine restS_take (v := ?_) 13 rfl (by kernel_rfl) (by kernel_rfl) (by kernel_rfl) (fun _ _ _ h => h) (by rfl) ?_ ?_
  rotate_left
  · intro w9 h9; try dsimp only at h9
    go_split_ands
    go_simp; try with_reducible rfl
  try simp only [Act.put, List.setIfInBounds_toArray, List.set_cons_zero, List.set_cons_succ]
  refine restS_two 14 16 rfl rfl (by kernel_rfl) (by rfl) (by rfl) (fun hS K hK => ?_) (fun hS K hK => ?_)
  · skip
    go_wp2_with fail
    refine (c_impl_opOf _ _ k a b x y _ (hh4.below hS)).mono ?_
    rintro e w4 ⟨rfl, hb4⟩
    go_wp2_with fail
    have hSx := bl_step hb4 hS.size hS
    replace Bz := Bz.below hb4
    replace Fz := Fz.below hb4
    refine hK.out _ _ hSx ?_
    try simp only [Act.put, List.setIfInBounds_toArray, List.set_cons_zero, List.set_cons_succ]
    clear hK K hS
    clear hSx
    refine restS_take (v := ?_) 15 rfl (by kernel_rfl) (by kernel_rfl) (by kernel_rfl) (fun _ _ _ h => h) (by rfl) ?_ ?_
    rotate_left
    · intro w9 h9; try dsimp only at h9
      go_split_ands
      go_simp; try with_reducible rfl
    try simp only [Act.put, List.setIfInBounds_toArray, List.set_cons_zero, List.set_cons_succ]
    refine restS_alone 16 rfl (by kernel_rfl) (by rfl) (fun hS K hK => ?_)
    go_wp2_with fail
    have hS4 := hS
    have Bz4 := Bz
    have Fz4 := Fz
    refine hK.out _ _ (hS.alloc hS.size (.cells ([.int .i64 0, .int .i64 0, .int .i64 0, .int .i64 0, .int .i64 0, .int .i64 0, .int .i64 0, .int .i64 0, .int .i64 0] : List Value).toArray 70)) ?_
    try simp only [Act.put, List.setIfInBounds_toArray, List.set_cons_zero, List.set_cons_succ]
    clear hK K hS
    refine restS_alone 17 rfl (by kernel_rfl) (by rfl) (fun hS K hK => ?_)
    go_wp2_with fail
    replace Bz := Bz4.alloc (.cells ([.int .i64 i, .int .i64 t, .int .i64 c, .int .i64 s, .int .i64 k, .int .i64 a, .int .i64 b, .int .i64 x, .int .i64 y] : List Value).toArray 70)
    replace Fz := Fz4.alloc (.cells ([.int .i64 i, .int .i64 t, .int .i64 c, .int .i64 s, .int .i64 k, .int .i64 a, .int .i64 b, .int .i64 x, .int .i64 y] : List Value).toArray 70)
    have By := Bx.new w4 [.int .i64 i, .int .i64 t, .int .i64 c, .int .i64 s, .int .i64 k, .int .i64 a, .int .i64 b, .int .i64 x, .int .i64 y] 70
    refine hK.out _ _ (hS4.alloc hS4.size (.cells ([.int .i64 i, .int .i64 t, .int .i64 c, .int .i64 s, .int .i64 k, .int .i64 a, .int .i64 b, .int .i64 x, .int .i64 y] : List Value).toArray 70)) ?_
    try simp only [Act.put, List.setIfInBounds_toArray, List.set_cons_zero, List.set_cons_succ]
    clear hK K hS
    refine restS_done (by kernel_rfl) (fun hS => ?_)
    have q2 := By.2
    go_wp2_with (go_at_call 156; refine (c_impl_EntryOk i t c s k a b x y _).mono ?_; rintro e w2 ⟨rfl, hb2⟩; clear q2; have q0 := (Bz.below hb2).2; have q1 := (Fz.below hb2).2; have q2 := (By.below hb2).2; have hw3 := bl_step hb2 hS.size hS; have hz2 := Nat.lt_of_lt_of_le Bz.1 hb2.size)
    refine bodyPost_ret (v := .tuple #[.agg #[.int .i64 0, .int .i64 0, .int .i64 0, .int .i64 0, .int .i64 0, .int .i64 0, .int .i64 0, .int .i64 0, .int .i64 0], .bool false]) (by simp [results, Try.results142, go_sem, *]) rfl ⟨rfl, ?_⟩
    (repeat (first | with_reducible exact Below.refl _ _ | ((with_reducible refine bl_alloc ?_ ?_); (focus (first | (simp; done) | (simp; omega) | omega))) | ((with_reducible refine bl_set ?_ ?_); (focus (first | (simp; done) | (simp; omega) | omega))) | ((with_reducible refine bl_later ?_ ?_); (focus (first | (simp; done) | (simp; omega) | omega))) | with_reducible refine bl_drew ?_ | with_reducible refine bl_drewN ?_ | ((with_reducible refine bl_step (by assumption) ?_ ?_); (focus (first | (simp; done) | (simp; omega) | omega)))))
  · skip
    go_wp2_with fail
    have By := Bx.new (w.alloc (.cells ([.int .i64 0, .int .i64 0, .int .i64 0, .int .i64 0, .int .i64 0, .int .i64 0, .int .i64 0, .int .i64 0, .int .i64 0] : List Value).toArray 70)) [.int .i64 0, .int .i64 0, .int .i64 0, .int .i64 0, .int .i64 0, .int .i64 0, .int .i64 0, .int .i64 0, .int .i64 0] 70 |>.drew
    have Fy := Fx.new (w.alloc (.cells ([.int .i64 0, .int .i64 0, .int .i64 0, .int .i64 0, .int .i64 0, .int .i64 0, .int .i64 0, .int .i64 0, .int .i64 0] : List Value).toArray 70)) [.int .i64 0, .int .i64 0, .int .i64 0, .int .i64 0, .int .i64 0, .int .i64 0, .int .i64 0, .int .i64 0, .int .i64 0] 70 |>.drew
    rw [World.size_alloc] at By Fy
    replace Bz := (Bx.new w [.int .i64 0, .int .i64 0, .int .i64 0, .int .i64 0, .int .i64 0, .int .i64 0, .int .i64 0, .int .i64 0, .int .i64 0] 70).alloc (.cells ([.int .i64 0, .int .i64 0, .int .i64 0, .int .i64 0, .int .i64 0, .int .i64 0, .int .i64 0, .int .i64 0, .int .i64 0] : List Value).toArray 70) |>.drew
    replace Fz := (Fx.new w [.int .i64 0, .int .i64 0, .int .i64 0, .int .i64 0, .int .i64 0, .int .i64 0, .int .i64 0, .int .i64 0, .int .i64 0] 70).alloc (.cells ([.int .i64 0, .int .i64 0, .int .i64 0, .int .i64 0, .int .i64 0, .int .i64 0, .int .i64 0, .int .i64 0, .int .i64 0] : List Value).toArray 70) |>.drew
    refine hK.out _ _ (by (repeat (first | with_reducible exact Below.refl _ _ | ((with_reducible refine bl_alloc ?_ ?_); (focus (first | (simp; done) | (simp; omega) | omega))) | ((with_reducible refine bl_set ?_ ?_); (focus (first | (simp; done) | (simp; omega) | omega))) | ((with_reducible refine bl_later ?_ ?_); (focus (first | (simp; done) | (simp; omega) | omega))) | with_reducible refine bl_drew ?_ | with_reducible refine bl_drewN ?_ | ((with_reducible refine bl_step (by assumption) ?_ ?_); (focus (first | (simp; done) | (simp; omega) | omega)))))) ?_
    try simp only [Act.put, List.setIfInBounds_toArray, List.set_cons_zero, List.set_cons_succ]
    clear hK K hS
    refine restS_alone 14 rfl (by kernel_rfl) (by rfl) (fun hS K hK => ?_)
    go_wp2_with fail
    refine (c_impl_opOf _ _ k a b x y _ (hh4.below hS)).mono ?_
    rintro e w4 ⟨rfl, hb4⟩
    go_wp2_with fail
    have hSx := bl_step hb4 hS.size hS
    replace Bz := Bz.below hb4
    replace Fz := Fz.below hb4
    replace By := By.below hb4
    replace Fy := Fy.below hb4
    refine hK.out _ _ hSx ?_
    try simp only [Act.put, List.setIfInBounds_toArray, List.set_cons_zero, List.set_cons_succ]
    clear hK K hS
    clear hSx
    refine restS_take (v := ?_) 15 rfl (by kernel_rfl) (by kernel_rfl) (by kernel_rfl) (fun _ _ _ h => h) (by rfl) ?_ ?_
    rotate_left
    · intro w9 h9; try dsimp only at h9
      go_split_ands
      go_simp; try with_reducible rfl
    try simp only [Act.put, List.setIfInBounds_toArray, List.set_cons_zero, List.set_cons_succ]
    refine restS_alone 17 rfl (by kernel_rfl) (by rfl) (fun hS K hK => ?_)
    have q0 := By.2
    have q1 := Fy.2
    go_wp2_with fail
    clear q0 q1
    have hS2 := hS
    replace By := By.set 0 (.int .i64 i) (by simp)
    replace Bz := Bz.setOther ⟨w.heap.size + 1, 0, none⟩ (.int .i64 i) (by simp)
    replace Fz := Fz.set ⟨w.heap.size + 1, 0, none⟩ (.int .i64 i)
    replace hS2 := hS2.setCell (p := ⟨w.heap.size + 1, 0, none⟩) (by simp) (.int .i64 i)
    replace By := By.set 1 (.int .i64 t) (by simp)
    replace Bz := Bz.setOther ⟨w.heap.size + 1, 1, none⟩ (.int .i64 t) (by simp)
    replace Fz := Fz.set ⟨w.heap.size + 1, 1, none⟩ (.int .i64 t)
    replace hS2 := hS2.setCell (p := ⟨w.heap.size + 1, 1, none⟩) (by simp) (.int .i64 t)
    replace By := By.set 2 (.int .i64 c) (by simp)
    replace Bz := Bz.setOther ⟨w.heap.size + 1, 2, none⟩ (.int .i64 c) (by simp)
    replace Fz := Fz.set ⟨w.heap.size + 1, 2, none⟩ (.int .i64 c)
    replace hS2 := hS2.setCell (p := ⟨w.heap.size + 1, 2, none⟩) (by simp) (.int .i64 c)
    replace By := By.set 3 (.int .i64 s) (by simp)
    replace Bz := Bz.setOther ⟨w.heap.size + 1, 3, none⟩ (.int .i64 s) (by simp)
    replace Fz := Fz.set ⟨w.heap.size + 1, 3, none⟩ (.int .i64 s)
    replace hS2 := hS2.setCell (p := ⟨w.heap.size + 1, 3, none⟩) (by simp) (.int .i64 s)
    replace By := By.set 4 (.int .i64 k) (by simp)
    replace Bz := Bz.setOther ⟨w.heap.size + 1, 4, none⟩ (.int .i64 k) (by simp)
    replace Fz := Fz.set ⟨w.heap.size + 1, 4, none⟩ (.int .i64 k)
    replace hS2 := hS2.setCell (p := ⟨w.heap.size + 1, 4, none⟩) (by simp) (.int .i64 k)
    replace By := By.set 5 (.int .i64 a) (by simp)
    replace Bz := Bz.setOther ⟨w.heap.size + 1, 5, none⟩ (.int .i64 a) (by simp)
    replace Fz := Fz.set ⟨w.heap.size + 1, 5, none⟩ (.int .i64 a)
    replace hS2 := hS2.setCell (p := ⟨w.heap.size + 1, 5, none⟩) (by simp) (.int .i64 a)
    replace By := By.set 6 (.int .i64 b) (by simp)
    replace Bz := Bz.setOther ⟨w.heap.size + 1, 6, none⟩ (.int .i64 b) (by simp)
    replace Fz := Fz.set ⟨w.heap.size + 1, 6, none⟩ (.int .i64 b)
    replace hS2 := hS2.setCell (p := ⟨w.heap.size + 1, 6, none⟩) (by simp) (.int .i64 b)
    replace By := By.set 7 (.int .i64 x) (by simp)
    replace Bz := Bz.setOther ⟨w.heap.size + 1, 7, none⟩ (.int .i64 x) (by simp)
    replace Fz := Fz.set ⟨w.heap.size + 1, 7, none⟩ (.int .i64 x)
    replace hS2 := hS2.setCell (p := ⟨w.heap.size + 1, 7, none⟩) (by simp) (.int .i64 x)
    replace By := By.set 8 (.int .i64 y) (by simp)
    replace Bz := Bz.setOther ⟨w.heap.size + 1, 8, none⟩ (.int .i64 y) (by simp)
    replace Fz := Fz.set ⟨w.heap.size + 1, 8, none⟩ (.int .i64 y)
    replace hS2 := hS2.setCell (p := ⟨w.heap.size + 1, 8, none⟩) (by simp) (.int .i64 y)
    simp only [List.set_cons_zero, List.set_cons_succ] at By
    refine hK.out _ _ hS2 ?_
    try simp only [Act.put, List.setIfInBounds_toArray, List.set_cons_zero, List.set_cons_succ]
    clear hK K hS
    clear hS2
    refine restS_done (by kernel_rfl) (fun hS => ?_)
    have q2 := By.2
    go_wp2_with (go_at_call 156; refine (c_impl_EntryOk i t c s k a b x y _).mono ?_; rintro e w2 ⟨rfl, hb2⟩; clear q2; have q0 := (Bz.below hb2).2; have q1 := (Fz.below hb2).2; have q2 := (By.below hb2).2; have hw3 := bl_step hb2 hS.size hS; have hz2 := Nat.lt_of_lt_of_le Bz.1 hb2.size)
    refine bodyPost_ret (v := .tuple #[.agg #[.int .i64 0, .int .i64 0, .int .i64 0, .int .i64 0, .int .i64 0, .int .i64 0, .int .i64 0, .int .i64 0, .int .i64 0], .bool false]) (by simp [results, Try.results142, go_sem, *]) rfl ⟨rfl, ?_⟩
    (repeat (first | with_reducible exact Below.refl _ _ | ((with_reducible refine bl_alloc ?_ ?_); (focus (first | (simp; done) | (simp; omega) | omega))) | ((with_reducible refine bl_set ?_ ?_); (focus (first | (simp; done) | (simp; omega) | omega))) | ((with_reducible refine bl_later ?_ ?_); (focus (first | (simp; done) | (simp; omega) | omega))) | with_reducible refine bl_drew ?_ | with_reducible refine bl_drewN ?_ | ((with_reducible refine bl_step (by assumption) ?_ ?_); (focus (first | (simp; done) | (simp; omega) | omega)))))

end Go.Proofs.Ytpfkfppooeikeaa
