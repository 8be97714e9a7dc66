/- Walks of functions of the program, printed by a program of the prover. -/
import Derived.Test.YtpfkfppooeikeaaJobsF
import Derived.Test.YtpfkfppooeikeaaJobsE
import Derived.Test.YtpfkfppooeikeaaCut
import Derived.WalkKit
import Derived.WalkSpells
import Derived.Deep.QuietTactic
import Derived.BigQuiet
import Derived.Deep.Light
import Derived.Lib.Hide
import Derived.Deep.RegionHeld3
namespace Go.Proofs.Ytpfkfppooeikeaa
open Go.ChangeShapes Go.WideShapes Go.ChangeAt Go.RowKit Go.Deep
set_option maxHeartbeats 1600000
set_option maxRecDepth 100000

def duesOf : List Int → List (Int × Int)
  | a :: b :: r => (a, b) :: duesOf r
  | _ => []

theorem due_one : ∀ d : Int × Int, ∀ u ∈ dueE.cells d, u.oneCell' = true := by
  intro d u hu
  simp only [dueE, dueCells, List.mem_cons, List.not_mem_nil, or_false] at hu
  rcases hu with rfl | rfl <;> rfl
theorem lit_due {w0 W : World} (_h : Below w0.heap.size w0 W) (x y : Int) (hx : inI64 x) (hy : inI64 y) : OwnA dueE (W.alloc (.cells ([.int .i64 x, .int .i64 y] : List Value).toArray 113)) 0 113 (.slice (some ⟨W.heap.size, 0, none⟩) 1 1) [(x, y)] :=
  ownA_lit dueE W 0 113 (x, y) (Nat.zero_le _) ⟨hx, hy⟩
theorem c_clos_Jobs (ao : Option Addr) (cap n : Nat) (p0 p1 p2 p3 p4 : Int) (r : List Int) (w : World) (hh : IntsR w ao (p0 :: p1 :: p2 :: p3 :: p4 :: r)) (hn : n = r.length + 5) (hcap : r.length + 5 ≤ cap) (hs : r.length ≤ 1000) :
    Calls Try.prog 137 #[.slice ao n cap] w (RetJobs w p0 p1 p2 p3 p4 (duesOf r)) := by
  obtain ⟨i0, hi, hz0, hz1, hz2⟩ := info_parts info_int64
  obtain ⟨j0, hj, hj0, hj1, hj2⟩ := info_parts info_Due
  subst hn
  obtain ⟨ao3, hsl, hR3⟩ := slice_low (P := Try.prog) (t := 22) Try.underlying22 hi hz1 cap 5 hh (by simp) (by simp; omega)
  have hsl2 : ∀ W, (Instr.slice 22 (.slice ao (r.length + 5) cap) (some (.int .i64 5)) none none).run Try.prog W = .ok (.slice ao3 r.length (cap - 5)) W := hsl
  simp only [List.drop_succ_cons, List.drop_zero] at hR3
  obtain ⟨b0, off, rfl, hbl, hr0, hc⟩ := hh.at (k := 0) (by simp)
  have k0 := hc 0 (by simp)
  have k1 := hc 1 (by simp)
  have k2 := hc 2 (by simp)
  have k3 := hc 3 (by simp)
  have k4 := hc 4 (by simp)
  simp only [List.getElem_cons_zero, List.getElem_cons_succ, Nat.add_zero] at k0 k1 k2 k3 k4
  clear hc hh
  have hbl1 : b0 < w.heap.size + 1 := by omega
  have hp : (5 : Int) ≤ (r.length : Int) + 5 := by omega
  have hb0 : (0 : Int) < (r.length : Int) + 5 := by omega
  have hb1 : (1 : Int) < (r.length : Int) + 5 := by omega
  have hb2 : (2 : Int) < (r.length : Int) + 5 := by omega
  have hb3 : (3 : Int) < (r.length : Int) + 5 := by omega
  have hb4 : (4 : Int) < (r.length : Int) + 5 := by omega
  have HR3 := Lib.hid hR3
  have hBz := ((Bx.new w [.int .i64 0, .int .i64 0, .int .i64 0, .int .i64 0, .int .i64 0, .slice none 0 0] 99).alloc (.cells ([.int .i64 p0, .int .i64 p1, .int .i64 p2, .int .i64 p3, .int .i64 p4, .slice none 0 0] : List Value).toArray 99)).drew
  have hFz := ((Fx.new w [.int .i64 0, .int .i64 0, .int .i64 0, .int .i64 0, .int .i64 0, .slice none 0 0] 99).alloc (.cells ([.int .i64 p0, .int .i64 p1, .int .i64 p2, .int .i64 p3, .int .i64 p4, .slice none 0 0] : List Value).toArray 99)).drew
  have hBx := (Bx.new (w.alloc (.cells ([.int .i64 0, .int .i64 0, .int .i64 0, .int .i64 0, .int .i64 0, .slice none 0 0] : List Value).toArray 99)) [.int .i64 p0, .int .i64 p1, .int .i64 p2, .int .i64 p3, .int .i64 p4, .slice none 0 0] 99).drew
  have hFx := (Fx.new (w.alloc (.cells ([.int .i64 0, .int .i64 0, .int .i64 0, .int .i64 0, .int .i64 0, .slice none 0 0] : List Value).toArray 99)) [.int .i64 p0, .int .i64 p1, .int .i64 p2, .int .i64 p3, .int .i64 p4, .slice none 0 0] 99).drew
  rw [World.size_alloc] at hBx hFx
  have HBz := Lib.hid hBz
  have HFz := Lib.hid hFz
  have HBx := Lib.hid hBx
  have HFx := Lib.hid hFx
  have Hsl5 := Lib.hid hsl2
  clear hBz hFz hBx hFx hR3 hsl hsl2
  go_enter Try.func137, Try.ntmps137
  go_wp2_with fail
  refine restS_begin (fun W => Below w.heap.size w W) (by kernel_rfl) (by (repeat (first | with_reducible exact Below.refl _ _ | ((with_reducible refine bl_alloc ?_ ?_); (focus (first | (simp; done) | (simp; omega) | omega))) | ((with_reducible refine bl_set ?_ ?_); (focus (first | (simp; done) | (simp; omega) | omega))) | ((with_reducible refine bl_later ?_ ?_); (focus (first | (simp; done) | (simp; omega) | omega))) | with_reducible refine bl_drew ?_ | with_reducible refine bl_drewN ?_ | ((with_reducible refine bl_step (by assumption) ?_ ?_); (focus (first | (simp; done) | (simp; omega) | omega)))))) ?_
  refine restS_take (v := ?_) 0 rfl (by kernel_rfl) (by kernel_rfl) (by kernel_rfl) (fun _ _ _ h => h) (by rfl) ?_ ?_
  rotate_left
  · intro w9 h9; try dsimp only at h9
    go_split_ands
    go_simp; try with_reducible rfl
  try simp only [Act.put, List.setIfInBounds_toArray, List.set_cons_zero, List.set_cons_succ]
  refine restS_take (v := ?_) 1 rfl (by kernel_rfl) (by kernel_rfl) (by kernel_rfl) (fun _ _ _ h => h) (by rfl) ?_ ?_
  rotate_left
  · intro w9 h9; try dsimp only at h9
    go_split_ands
    go_simp; try with_reducible rfl
  try simp only [Act.put, List.setIfInBounds_toArray, List.set_cons_zero, List.set_cons_succ]
  refine restS_take (v := ?_) 2 rfl (by kernel_rfl) (by kernel_rfl) (by kernel_rfl) (fun _ _ _ h => h) (by rfl) ?_ ?_
  rotate_left
  · intro w9 h9; try dsimp only at h9
    obtain ⟨x9, rfl⟩ := later_of h9
    go_simp; try with_reducible rfl
  try simp only [Act.put, List.setIfInBounds_toArray, List.set_cons_zero, List.set_cons_succ]
  refine restS_take (v := ?_) 3 rfl (by kernel_rfl) (by kernel_rfl) (by kernel_rfl) (fun _ _ _ h => h) (by rfl) ?_ ?_
  rotate_left
  · intro w9 h9; try dsimp only at h9
    go_split_ands
    go_simp; try with_reducible rfl
  try simp only [Act.put, List.setIfInBounds_toArray, List.set_cons_zero, List.set_cons_succ]
  refine restS_take (v := ?_) 4 rfl (by kernel_rfl) (by kernel_rfl) (by kernel_rfl) (fun _ _ _ h => h) (by rfl) ?_ ?_
  rotate_left
  · intro w9 h9; try dsimp only at h9
    go_split_ands
    go_simp; try with_reducible rfl
  try simp only [Act.put, List.setIfInBounds_toArray, List.set_cons_zero, List.set_cons_succ]
  refine restS_take (v := ?_) 5 rfl (by kernel_rfl) (by kernel_rfl) (by kernel_rfl) (fun _ _ _ h => h) (by rfl) ?_ ?_
  rotate_left
  · intro w9 h9; try dsimp only at h9
    obtain ⟨x9, rfl⟩ := later_of h9
    go_simp; try with_reducible rfl
  try simp only [Act.put, List.setIfInBounds_toArray, List.set_cons_zero, List.set_cons_succ]
  refine restS_take (v := ?_) 6 rfl (by kernel_rfl) (by kernel_rfl) (by kernel_rfl) (fun _ _ _ h => h) (by rfl) ?_ ?_
  rotate_left
  · intro w9 h9; try dsimp only at h9
    go_split_ands
    go_simp; try with_reducible rfl
  try simp only [Act.put, List.setIfInBounds_toArray, List.set_cons_zero, List.set_cons_succ]
  refine restS_take (v := ?_) 7 rfl (by kernel_rfl) (by kernel_rfl) (by kernel_rfl) (fun _ _ _ h => h) (by rfl) ?_ ?_
  rotate_left
  · intro w9 h9; try dsimp only at h9
    go_split_ands
    go_simp; try with_reducible rfl
  try simp only [Act.put, List.setIfInBounds_toArray, List.set_cons_zero, List.set_cons_succ]
  refine restS_take (v := ?_) 8 rfl (by kernel_rfl) (by kernel_rfl) (by kernel_rfl) (fun _ _ _ h => h) (by rfl) ?_ ?_
  rotate_left
  · intro w9 h9; try dsimp only at h9
    obtain ⟨x9, rfl⟩ := later_of h9
    go_simp; try with_reducible rfl
  try simp only [Act.put, List.setIfInBounds_toArray, List.set_cons_zero, List.set_cons_succ]
  refine restS_take (v := ?_) 9 rfl (by kernel_rfl) (by kernel_rfl) (by kernel_rfl) (fun _ _ _ h => h) (by rfl) ?_ ?_
  rotate_left
  · intro w9 h9; try dsimp only at h9
    go_split_ands
    go_simp; try with_reducible rfl
  try simp only [Act.put, List.setIfInBounds_toArray, List.set_cons_zero, List.set_cons_succ]
  refine restS_take (v := ?_) 10 rfl (by kernel_rfl) (by kernel_rfl) (by kernel_rfl) (fun _ _ _ h => h) (by rfl) ?_ ?_
  rotate_left
  · intro w9 h9; try dsimp only at h9
    go_split_ands
    go_simp; try with_reducible rfl
  try simp only [Act.put, List.setIfInBounds_toArray, List.set_cons_zero, List.set_cons_succ]
  refine restS_take (v := ?_) 11 rfl (by kernel_rfl) (by kernel_rfl) (by kernel_rfl) (fun _ _ _ h => h) (by rfl) ?_ ?_
  rotate_left
  · intro w9 h9; try dsimp only at h9
    obtain ⟨x9, rfl⟩ := later_of h9
    go_simp; try with_reducible rfl
  try simp only [Act.put, List.setIfInBounds_toArray, List.set_cons_zero, List.set_cons_succ]
  refine restS_take (v := ?_) 12 rfl (by kernel_rfl) (by kernel_rfl) (by kernel_rfl) (fun _ _ _ h => h) (by rfl) ?_ ?_
  rotate_left
  · intro w9 h9; try dsimp only at h9
    go_split_ands
    go_simp; try with_reducible rfl
  try simp only [Act.put, List.setIfInBounds_toArray, List.set_cons_zero, List.set_cons_succ]
  refine restS_take (v := ?_) 13 rfl (by kernel_rfl) (by kernel_rfl) (by kernel_rfl) (fun _ _ _ h => h) (by rfl) ?_ ?_
  rotate_left
  · intro w9 h9; try dsimp only at h9
    go_split_ands
    go_simp; try with_reducible rfl
  try simp only [Act.put, List.setIfInBounds_toArray, List.set_cons_zero, List.set_cons_succ]
  refine restS_take (v := ?_) 14 rfl (by kernel_rfl) (by kernel_rfl) (by kernel_rfl) (fun _ _ _ h => h) (by rfl) ?_ ?_
  rotate_left
  · intro w9 h9; try dsimp only at h9
    obtain ⟨x9, rfl⟩ := later_of h9
    go_simp; try with_reducible rfl
  try simp only [Act.put, List.setIfInBounds_toArray, List.set_cons_zero, List.set_cons_succ]
  refine restS_take (v := ?_) 15 rfl (by kernel_rfl) (by kernel_rfl) (by kernel_rfl) (fun _ _ _ h => h) (by rfl) ?_ ?_
  rotate_left
  · intro w9 h9; try dsimp only at h9
    go_split_ands
    go_simp; try with_reducible rfl
  try simp only [Act.put, List.setIfInBounds_toArray, List.set_cons_zero, List.set_cons_succ]
  refine restS_alone 16 rfl (by kernel_rfl) (by rfl) (fun hS K hK => ?_)
  go_wp2_with fail
  refine hK.out _ _ (by (repeat (first | with_reducible exact Below.refl _ _ | ((with_reducible refine bl_alloc ?_ ?_); (focus (first | (simp; done) | (simp; omega) | omega))) | ((with_reducible refine bl_set ?_ ?_); (focus (first | (simp; done) | (simp; omega) | omega))) | ((with_reducible refine bl_later ?_ ?_); (focus (first | (simp; done) | (simp; omega) | omega))) | with_reducible refine bl_drew ?_ | with_reducible refine bl_drewN ?_ | ((with_reducible refine bl_step (by assumption) ?_ ?_); (focus (first | (simp; done) | (simp; omega) | omega)))))) ?_
  try simp only [Act.put, List.setIfInBounds_toArray, List.set_cons_zero, List.set_cons_succ]
  clear hK K hS
  refine restS_alone 17 rfl (by kernel_rfl) (by rfl) (fun hS K hK => ?_)
  go_wp2_with fail
  refine hK.out _ _ (by (repeat (first | with_reducible exact Below.refl _ _ | ((with_reducible refine bl_alloc ?_ ?_); (focus (first | (simp; done) | (simp; omega) | omega))) | ((with_reducible refine bl_set ?_ ?_); (focus (first | (simp; done) | (simp; omega) | omega))) | ((with_reducible refine bl_later ?_ ?_); (focus (first | (simp; done) | (simp; omega) | omega))) | with_reducible refine bl_drew ?_ | with_reducible refine bl_drewN ?_ | ((with_reducible refine bl_step (by assumption) ?_ ?_); (focus (first | (simp; done) | (simp; omega) | omega)))))) ?_
  try simp only [Act.put, List.setIfInBounds_toArray, List.set_cons_zero, List.set_cons_succ]
  clear hK K hS
  refine restS_done (by kernel_rfl) (fun hS => ?_)
  have hsl := Hsl5.out
  go_wp2_with fail
  clear hsl
  go_loopw [4] (fun v wr => ∃ (q : List Int) (D : List (Int × Int)) (ao2 : Option Addr) (cap2 : Nat) (ao' : Option Addr) (cap' : Nat), v = .slice ao2 q.length cap2 ∧ q.length ≤ cap2 ∧ IntsR w ao2 q ∧ Hid (duesOf r = D ++ duesOf q) ∧ Hid (D.length * 2 + q.length ≤ 1000) ∧ Bx wr (w.heap.size + 1) [.int .i64 p0, .int .i64 p1, .int .i64 p2, .int .i64 p3, .int .i64 p4, .slice ao' D.length cap'] ∧ Fx wr (w.heap.size + 1) ∧ Bx wr w.heap.size [.int .i64 0, .int .i64 0, .int .i64 0, .int .i64 0, .int .i64 0, .slice none 0 0] ∧ Fx wr w.heap.size ∧ OwnA dueE wr (w.heap.size + 1 + 1) 113 (.slice ao' D.length cap') D ∧ Below w.heap.size w wr)
    (fun v _ => match v with | .slice _ m _ => m | _ => 0)
  case atStart => exact ⟨r, [], ao3, cap - 5, none, 0, rfl, by omega, HR3.out, rfl, by simp [Hid]; omega, HBx.out, HFx.out, HBz.out, HFz.out, ownA_nil _ _ _ _, hS⟩
  case round =>
    obtain ⟨q, D, ao2, cap2, ao', cap', rfl, hq2, hR, Hd, HdL, hBx, hFx, hBz, hFz, hOw, hbel⟩ := hrel
    match q, hq2, hR, Hd, HdL with
    | [], hq2, hR, Hd, HdL =>
      have e : D = duesOf r := by rw [Hd.out]; simp [duesOf]
      subst e
      have q0 := hBx.2
      have q1 := hBz.2
      have q2 := hFz.2
      go_wp2_with fail
      refine bodyPost_ret (v := .agg #[.int .i64 p0, .int .i64 p1, .int .i64 p2, .int .i64 p3, .int .i64 p4, .slice ao' (duesOf r).length cap']) (by simp [results, Try.results137, go_sem, *]) rfl ⟨ao', cap', rfl, ?_, by (repeat (first | with_reducible exact Below.refl _ _ | ((with_reducible refine bl_alloc ?_ ?_); (focus (first | (simp; done) | (simp; omega) | omega))) | ((with_reducible refine bl_set ?_ ?_); (focus (first | (simp; done) | (simp; omega) | omega))) | ((with_reducible refine bl_later ?_ ?_); (focus (first | (simp; done) | (simp; omega) | omega))) | with_reducible refine bl_drew ?_ | with_reducible refine bl_drewN ?_ | ((with_reducible refine bl_step (by assumption) ?_ ?_); (focus (first | (simp; done) | (simp; omega) | omega)))))⟩
      refine OwnA.weak (lo := w.heap.size + 1 + 1) (by omega) ?_
      repeat (first | ((with_reducible refine OwnA.set ?_ ?_); (focus (first | (simp; done) | (simp; omega) | omega))))
      exact hOw
    | [x0], hq2, hR, Hd, HdL =>
      have e : D = duesOf r := by rw [Hd.out]; simp [duesOf]
      subst e
      have q0 := hBx.2
      have q1 := hBz.2
      have q2 := hFz.2
      go_wp2_with fail
      refine bodyPost_ret (v := .agg #[.int .i64 p0, .int .i64 p1, .int .i64 p2, .int .i64 p3, .int .i64 p4, .slice ao' (duesOf r).length cap']) (by simp [results, Try.results137, go_sem, *]) rfl ⟨ao', cap', rfl, ?_, by (repeat (first | with_reducible exact Below.refl _ _ | ((with_reducible refine bl_alloc ?_ ?_); (focus (first | (simp; done) | (simp; omega) | omega))) | ((with_reducible refine bl_set ?_ ?_); (focus (first | (simp; done) | (simp; omega) | omega))) | ((with_reducible refine bl_later ?_ ?_); (focus (first | (simp; done) | (simp; omega) | omega))) | with_reducible refine bl_drew ?_ | with_reducible refine bl_drewN ?_ | ((with_reducible refine bl_step (by assumption) ?_ ?_); (focus (first | (simp; done) | (simp; omega) | omega)))))⟩
      refine OwnA.weak (lo := w.heap.size + 1 + 1) (by omega) ?_
      repeat (first | ((with_reducible refine OwnA.set ?_ ?_); (focus (first | (simp; done) | (simp; omega) | omega))))
      exact hOw
    | x0 :: x1 :: q, hq2, hR, Hd, HdL =>
      obtain ⟨ao4, hsl, hR4⟩ := slice_low (P := Try.prog) (t := 22) Try.underlying22 hi hz1 cap2 2 hR (by simp) (by simpa using hq2)
      have hsl2 : ∀ W, (Instr.slice 22 (.slice ao2 (q.length + 1 + 1) cap2) (some (.int .i64 2)) none none).run Try.prog W = .ok (.slice ao4 q.length (cap2 - 2)) W := hsl
      simp only [List.drop_succ_cons, List.drop_zero] at hR4
      have HR4 := Lib.hid hR4
      have Hsl := Lib.hid hsl2
      obtain ⟨b1, off1, rfl, hbl1, hr1, hc1⟩ := hR.at (k := 0) (by simp)
      have k0 := hc1 0 (by simp)
      have k1 := hc1 1 (by simp)
      simp only [List.getElem_cons_zero, List.getElem_cons_succ, Nat.add_zero] at k0 k1
      have hb0 : (0 : Int) < (q.length : Int) + 1 + 1 := by omega
      have hb1 : (1 : Int) < (q.length : Int) + 1 + 1 := by omega
      have hb2 : (2 : Int) ≤ (q.length : Int) + 1 + 1 := by omega
      have hx0 := hR.1 x0 (by simp)
      have hx1 := hR.1 x1 (by simp)
      have hDl : D.length ≤ 1000 := by have h7 := HdL.out; omega
      clear hc1 hR4 hsl hsl2
      go_wp2_with fail
      refine restS_begin (fun W => Below w.heap.size w W) (by kernel_rfl) hbel.drew ?_
      have hBw := hBx
      replace hBx := hBx.drew
      replace hFx := hFx.drew
      replace hBz := hBz.drew
      replace hFz := hFz.drew
      replace hOw := hOw.below (Below.refl _ _).drew
      refine restS_take (v := ?_) 0 rfl (by kernel_rfl) (by kernel_rfl) (by kernel_rfl) (fun _ _ _ h => h) (by rfl) ?_ ?_
      rotate_left
      · intro w9 h9; try dsimp only at h9
        go_split_ands
        go_simp; try with_reducible rfl
      try simp only [Act.put, List.setIfInBounds_toArray, List.set_cons_zero, List.set_cons_succ]
      refine restS_take (v := ?_) 2 rfl (by kernel_rfl) (by kernel_rfl) (by kernel_rfl) (fun _ _ _ h => h) (by rfl) ?_ ?_
      rotate_left
      · intro w9 h9; try dsimp only at h9
        go_split_ands
        go_simp; try with_reducible rfl
      try simp only [Act.put, List.setIfInBounds_toArray, List.set_cons_zero, List.set_cons_succ]
      refine restS_take (v := ?_) 3 rfl (by kernel_rfl) (by kernel_rfl) (by kernel_rfl) (fun _ _ _ h => h) (by rfl) ?_ ?_
      rotate_left
      · intro w9 h9; try dsimp only at h9
        go_split_ands
        go_simp; try with_reducible rfl
      try simp only [Act.put, List.setIfInBounds_toArray, List.set_cons_zero, List.set_cons_succ]
      refine restS_take (v := ?_) 4 rfl (by kernel_rfl) (by kernel_rfl) (by kernel_rfl) (fun _ _ _ h => h) (by rfl) ?_ ?_
      rotate_left
      · intro w9 h9; try dsimp only at h9
        obtain ⟨x9, rfl⟩ := later_of h9
        go_simp; try with_reducible rfl
      try simp only [Act.put, List.setIfInBounds_toArray, List.set_cons_zero, List.set_cons_succ]
      refine restS_take (v := ?_) 5 rfl (by kernel_rfl) (by kernel_rfl) (by kernel_rfl) (fun _ _ _ h => h) (by rfl) ?_ ?_
      rotate_left
      · intro w9 h9; try dsimp only at h9
        go_split_ands
        go_simp; try with_reducible rfl
      try simp only [Act.put, List.setIfInBounds_toArray, List.set_cons_zero, List.set_cons_succ]
      refine restS_take (v := ?_) 6 rfl (by kernel_rfl) (by kernel_rfl) (by kernel_rfl) (fun _ _ _ h => h) (by rfl) ?_ ?_
      rotate_left
      · intro w9 h9; try dsimp only at h9
        go_split_ands
        go_simp; try with_reducible rfl
      try simp only [Act.put, List.setIfInBounds_toArray, List.set_cons_zero, List.set_cons_succ]
      refine restS_take (v := ?_) 7 rfl (by kernel_rfl) (by kernel_rfl) (by kernel_rfl) (fun _ _ _ h => h) (by rfl) ?_ ?_
      rotate_left
      · intro w9 h9; try dsimp only at h9
        obtain ⟨x9, rfl⟩ := later_of h9
        go_simp; try with_reducible rfl
      try simp only [Act.put, List.setIfInBounds_toArray, List.set_cons_zero, List.set_cons_succ]
      refine restS_take (v := ?_) 8 rfl (by kernel_rfl) (by kernel_rfl) (by kernel_rfl) (fun _ _ _ h => h) (by rfl) ?_ ?_
      rotate_left
      · intro w9 h9; try dsimp only at h9
        go_split_ands
        go_simp; try with_reducible rfl
      try simp only [Act.put, List.setIfInBounds_toArray, List.set_cons_zero, List.set_cons_succ]
      refine restS_two 1 9 rfl rfl (by kernel_rfl) (by rfl) (by rfl) (fun hS K hK => ?_) (fun hS K hK => ?_)
      · skip
        have q0 := hBw.2
        have hBl := hBw.1
        go_wp2_with fail
        clear q0
        refine hK.out _ _ hS ?_
        try simp only [Act.put, List.setIfInBounds_toArray, List.set_cons_zero, List.set_cons_succ]
        clear hK K hS
        refine restS_alone 9 rfl (by kernel_rfl) (by rfl) (fun hS K hK => ?_)
        go_wp2_with fail
        have hL := lit_due hS x0 x1 hx0 hx1
        simp only [World.size_drew] at hL
        replace hBx := hBx.alloc (.cells ([.int .i64 x0, .int .i64 x1] : List Value).toArray 113)
        replace hFx := hFx.alloc (.cells ([.int .i64 x0, .int .i64 x1] : List Value).toArray 113)
        replace hBz := hBz.alloc (.cells ([.int .i64 x0, .int .i64 x1] : List Value).toArray 113)
        replace hFz := hFz.alloc (.cells ([.int .i64 x0, .int .i64 x1] : List Value).toArray 113)
        replace hOw := hOw.below ((Below.refl _ _).alloc (Nat.le_refl _) (.cells ([.int .i64 x0, .int .i64 x1] : List Value).toArray 113))
        have hS2 := hS.alloc hS.size (.cells ([.int .i64 x0, .int .i64 x1] : List Value).toArray 113)
        refine hK.out _ _ hS2 ?_
        try simp only [Act.put, List.setIfInBounds_toArray, List.set_cons_zero, List.set_cons_succ]
        clear hK K hS
        clear hS2
        refine restS_alone 10 rfl (by kernel_rfl) (by rfl) (fun hS K hK => ?_)
        have hlt2 := hOw.2.2.lt
        refine wpo_append_rows (E := dueE) _ _ _ (by rfl) (w.heap.size + 1 + 1) 113 j0 (.agg #[.int .i64 0, .int .i64 0]) 16 Try.underlying97 hj hj0 hj1 hj2 rfl (by omega) due_one _ _ _ _ D [(x0, x1)] (by rfl) hOw (by rfl) hL.read (by simp only [List.length_cons, List.length_nil]; omega) (by have h7 := hBx.1; simp only [World.size_alloc, World.size_drew] at h7 ⊢; omega) (fun a5 c5 w5 ho5 hg5 => ?_)
        replace hBx := hBx.grown hg5 (fun e => by have h7 := (hlt2 _ e).1; omega)
        replace hFx := hFx.grown hg5 (fun e => by have h7 := (hlt2 _ e).1; omega)
        replace hBz := hBz.grown hg5 (fun e => by have h7 := (hlt2 _ e).1; omega)
        replace hFz := hFz.grown hg5 (fun e => by have h7 := (hlt2 _ e).1; omega)
        have hS2 := bl_grown hg5 hS.size (fun k hk => Nat.le_trans (by omega) (hlt2 k hk).1) hS
        clear hlt2 hOw hL
        refine hK.out _ _ hS2 ?_
        try simp only [Act.put, List.setIfInBounds_toArray, List.set_cons_zero, List.set_cons_succ]
        clear hK K hS
        clear hS2 hg5
        refine restS_take (v := ?_) 11 rfl (by kernel_rfl) (by kernel_rfl) (by kernel_rfl) (fun _ _ _ h => h) (by rfl) ?_ ?_
        rotate_left
        · intro w9 h9; try dsimp only at h9
          go_split_ands
          go_simp; try with_reducible rfl
        try simp only [Act.put, List.setIfInBounds_toArray, List.set_cons_zero, List.set_cons_succ]
        refine restS_alone 12 rfl (by kernel_rfl) (by rfl) (fun hS K hK => ?_)
        have q0 := hBx.2
        have q1 := hFx.2
        go_wp2_with fail
        clear q0 q1
        replace hBx := hBx.set 5 (.slice a5 (D.length + 1) c5) (by simp)
        replace hFx := hFx.set ⟨w.heap.size + 1, 5, none⟩ (.slice a5 (D.length + 1) c5)
        replace hBz := hBz.setOther ⟨w.heap.size + 1, 5, none⟩ (.slice a5 (D.length + 1) c5) (by simp)
        replace hFz := hFz.set ⟨w.heap.size + 1, 5, none⟩ (.slice a5 (D.length + 1) c5)
        replace ho5 := ho5.set (a := ⟨w.heap.size + 1, 5, none⟩) (u := .slice a5 (D.length + 1) c5) (by simp)
        have hS2 : Below w.heap.size w _ := hS.setCell (p := ⟨w.heap.size + 1, 5, none⟩) (by simp) (.slice a5 (D.length + 1) c5)
        refine hK.out _ _ hS2 ?_
        try simp only [Act.put, List.setIfInBounds_toArray, List.set_cons_zero, List.set_cons_succ]
        clear hK K hS
        clear hS2
        refine restS_done (by kernel_rfl) (fun hS => ?_)
        simp only [List.set_cons_succ, List.set_cons_zero] at hBx
        have hsl := Hsl.out
        go_wp2_with fail
        go_roundw
        case rel => exact ⟨q, D ++ [(x0, x1)], ao4, cap2 - 2, a5, c5, by simp, by simp only [List.length_cons] at hq2; omega, HR4.out, (by show duesOf r = _; rw [Hd.out]; simp [duesOf]), (by show _ ≤ 1000; have h7 := HdL.out; simp only [List.length_append, List.length_cons, List.length_nil] at h7 ⊢; omega), (by rw [List.length_append]; exact hBx), hFx, hBz, hFz, ho5, hS⟩
        case measure => simp; omega
      · skip
        go_wp2_with fail
        have hL := lit_due hS x0 x1 hx0 hx1
        simp only [World.size_drew] at hL
        replace hBx := hBx.alloc (.cells ([.int .i64 x0, .int .i64 x1] : List Value).toArray 113)
        replace hFx := hFx.alloc (.cells ([.int .i64 x0, .int .i64 x1] : List Value).toArray 113)
        replace hBz := hBz.alloc (.cells ([.int .i64 x0, .int .i64 x1] : List Value).toArray 113)
        replace hFz := hFz.alloc (.cells ([.int .i64 x0, .int .i64 x1] : List Value).toArray 113)
        replace hOw := hOw.below ((Below.refl _ _).alloc (Nat.le_refl _) (.cells ([.int .i64 x0, .int .i64 x1] : List Value).toArray 113))
        have hS2 := hS.alloc hS.size (.cells ([.int .i64 x0, .int .i64 x1] : List Value).toArray 113)
        refine hK.out _ _ hS2 ?_
        try simp only [Act.put, List.setIfInBounds_toArray, List.set_cons_zero, List.set_cons_succ]
        clear hK K hS
        clear hS2
        refine restS_alone 1 rfl (by kernel_rfl) (by rfl) (fun hS K hK => ?_)
        have q0 := hBw.2
        have hBl := hBw.1
        go_wp2_with fail
        clear q0
        refine hK.out _ _ hS ?_
        try simp only [Act.put, List.setIfInBounds_toArray, List.set_cons_zero, List.set_cons_succ]
        clear hK K hS
        refine restS_alone 10 rfl (by kernel_rfl) (by rfl) (fun hS K hK => ?_)
        have hlt2 := hOw.2.2.lt
        refine wpo_append_rows (E := dueE) _ _ _ (by rfl) (w.heap.size + 1 + 1) 113 j0 (.agg #[.int .i64 0, .int .i64 0]) 16 Try.underlying97 hj hj0 hj1 hj2 rfl (by omega) due_one _ _ _ _ D [(x0, x1)] (by rfl) hOw (by rfl) hL.read (by simp only [List.length_cons, List.length_nil]; omega) (by have h7 := hBx.1; simp only [World.size_alloc, World.size_drew] at h7 ⊢; omega) (fun a5 c5 w5 ho5 hg5 => ?_)
        replace hBx := hBx.grown hg5 (fun e => by have h7 := (hlt2 _ e).1; omega)
        replace hFx := hFx.grown hg5 (fun e => by have h7 := (hlt2 _ e).1; omega)
        replace hBz := hBz.grown hg5 (fun e => by have h7 := (hlt2 _ e).1; omega)
        replace hFz := hFz.grown hg5 (fun e => by have h7 := (hlt2 _ e).1; omega)
        have hS2 := bl_grown hg5 hS.size (fun k hk => Nat.le_trans (by omega) (hlt2 k hk).1) hS
        clear hlt2 hOw hL
        refine hK.out _ _ hS2 ?_
        try simp only [Act.put, List.setIfInBounds_toArray, List.set_cons_zero, List.set_cons_succ]
        clear hK K hS
        clear hS2 hg5
        refine restS_take (v := ?_) 11 rfl (by kernel_rfl) (by kernel_rfl) (by kernel_rfl) (fun _ _ _ h => h) (by rfl) ?_ ?_
        rotate_left
        · intro w9 h9; try dsimp only at h9
          go_split_ands
          go_simp; try with_reducible rfl
        try simp only [Act.put, List.setIfInBounds_toArray, List.set_cons_zero, List.set_cons_succ]
        refine restS_alone 12 rfl (by kernel_rfl) (by rfl) (fun hS K hK => ?_)
        have q0 := hBx.2
        have q1 := hFx.2
        go_wp2_with fail
        clear q0 q1
        replace hBx := hBx.set 5 (.slice a5 (D.length + 1) c5) (by simp)
        replace hFx := hFx.set ⟨w.heap.size + 1, 5, none⟩ (.slice a5 (D.length + 1) c5)
        replace hBz := hBz.setOther ⟨w.heap.size + 1, 5, none⟩ (.slice a5 (D.length + 1) c5) (by simp)
        replace hFz := hFz.set ⟨w.heap.size + 1, 5, none⟩ (.slice a5 (D.length + 1) c5)
        replace ho5 := ho5.set (a := ⟨w.heap.size + 1, 5, none⟩) (u := .slice a5 (D.length + 1) c5) (by simp)
        have hS2 : Below w.heap.size w _ := hS.setCell (p := ⟨w.heap.size + 1, 5, none⟩) (by simp) (.slice a5 (D.length + 1) c5)
        refine hK.out _ _ hS2 ?_
        try simp only [Act.put, List.setIfInBounds_toArray, List.set_cons_zero, List.set_cons_succ]
        clear hK K hS
        clear hS2
        refine restS_done (by kernel_rfl) (fun hS => ?_)
        simp only [List.set_cons_succ, List.set_cons_zero] at hBx
        have hsl := Hsl.out
        go_wp2_with fail
        go_roundw
        case rel => exact ⟨q, D ++ [(x0, x1)], ao4, cap2 - 2, a5, c5, by simp, by simp only [List.length_cons] at hq2; omega, HR4.out, (by show duesOf r = _; rw [Hd.out]; simp [duesOf]), (by show _ ≤ 1000; have h7 := HdL.out; simp only [List.length_append, List.length_cons, List.length_nil] at h7 ⊢; omega), (by rw [List.length_append]; exact hBx), hFx, hBz, hFz, ho5, hS⟩
        case measure => simp; omega

end Go.Proofs.Ytpfkfppooeikeaa
