/- Walks of functions of the program, printed by a program of the prover. -/
import Derived.Test.YtpfkfppooeikeaaFeedP
import Derived.Test.YtpfkfppooeikeaaEntRowI
import Derived.WalkKit
import Derived.WalkSpells
import Derived.Deep.QuietTactic
import Derived.BigQuiet
import Derived.Deep.Light
import Derived.Lib.Hide
import Derived.Deep.RegionHeld3
namespace Go.Proofs.Ytpfkfppooeikeaa
open Go.ChangeShapes Go.WideShapes Go.ChangeAt Go.RowKit Go.Deep
set_option maxHeartbeats 1600000
set_option maxRecDepth 100000
theorem c_clos_Feed (ao : Option Addr) (cap n : Nat) (p0 p1 : Int) (r : List Int) (w : World) (hh : IntsR w ao (p0 :: p1 :: r)) (hn : n = r.length + 2) (hcap : r.length + 2 ≤ cap) (hs : r.length ≤ 1000) :
    Calls Try.prog 141 #[.slice ao n cap] w (RetFeed w p0 p1 ((chunk9 r).map entFix)) := by
  obtain ⟨i0, hi, hz0, hz1, hz2⟩ := info_parts info_int64
  obtain ⟨j0, hj, hj0, hj1, hj2⟩ := info_parts info_Entry
  subst hn
  obtain ⟨ao3, hsl, hR3⟩ := slice_low (P := Try.prog) (t := 22) Try.underlying22 hi hz1 cap 2 hh (by simp) (by simp; omega)
  have hsl2 : ∀ W, (Instr.slice 22 (.slice ao (r.length + 2) cap) (some (.int .i64 2)) none none).run Try.prog W = .ok (.slice ao3 r.length (cap - 2)) W := hsl
  simp only [List.drop_succ_cons, List.drop_zero] at hR3
  obtain ⟨b0, off, rfl, hbl, hr0, hc⟩ := hh.at (k := 0) (by simp)
  have k0 := hc 0 (by simp)
  have k1 := hc 1 (by simp)
  simp only [List.getElem_cons_zero, List.getElem_cons_succ, Nat.add_zero] at k0 k1
  clear hc hh
  have hbl1 : b0 < w.heap.size + 1 := by omega
  have hb0 : (0 : Int) < (r.length : Int) + 2 := by omega
  have hb1 : (1 : Int) < (r.length : Int) + 2 := by omega
  have HR3 := Lib.hid hR3
  have hBz := ((Bx.new w [.int .i64 0, .int .i64 0, .slice none 0 0] 44).alloc (.cells ([.int .i64 p0, .int .i64 p1, .slice none 0 0] : List Value).toArray 44)).drew
  have hFz := ((Fx.new w [.int .i64 0, .int .i64 0, .slice none 0 0] 44).alloc (.cells ([.int .i64 p0, .int .i64 p1, .slice none 0 0] : List Value).toArray 44)).drew
  have hBx := (Bx.new (w.alloc (.cells ([.int .i64 0, .int .i64 0, .slice none 0 0] : List Value).toArray 44)) [.int .i64 p0, .int .i64 p1, .slice none 0 0] 44).drew
  have hFx := (Fx.new (w.alloc (.cells ([.int .i64 0, .int .i64 0, .slice none 0 0] : List Value).toArray 44)) [.int .i64 p0, .int .i64 p1, .slice none 0 0] 44).drew
  rw [World.size_alloc] at hBx hFx
  have HBz := Lib.hid hBz
  have HFz := Lib.hid hFz
  have HBx := Lib.hid hBx
  have HFx := Lib.hid hFx
  have Hsl5 := Lib.hid hsl2
  clear hBz hFz hBx hFx hR3 hsl hsl2
  go_enter Try.func141, Try.ntmps141
  go_wp2_with fail
  refine restS_begin (fun W => Below w.heap.size w W) (by kernel_rfl) (by (repeat (first | with_reducible exact Below.refl _ _ | ((with_reducible refine bl_alloc ?_ ?_); (focus (first | (simp; done) | (simp; omega) | omega))) | ((with_reducible refine bl_set ?_ ?_); (focus (first | (simp; done) | (simp; omega) | omega))) | ((with_reducible refine bl_later ?_ ?_); (focus (first | (simp; done) | (simp; omega) | omega))) | with_reducible refine bl_drew ?_ | with_reducible refine bl_drewN ?_ | ((with_reducible refine bl_step (by assumption) ?_ ?_); (focus (first | (simp; done) | (simp; omega) | omega)))))) ?_
  refine restS_take (v := ?_) 0 rfl (by kernel_rfl) (by kernel_rfl) (by kernel_rfl) (fun _ _ _ h => h) (by rfl) ?_ ?_
  rotate_left
  · intro w9 h9; try dsimp only at h9
    go_split_ands
    go_simp; try with_reducible rfl
  try simp only [Act.put, List.setIfInBounds_toArray, List.set_cons_zero, List.set_cons_succ]
  refine restS_take (v := ?_) 1 rfl (by kernel_rfl) (by kernel_rfl) (by kernel_rfl) (fun _ _ _ h => h) (by rfl) ?_ ?_
  rotate_left
  · intro w9 h9; try dsimp only at h9
    go_split_ands
    go_simp; try with_reducible rfl
  try simp only [Act.put, List.setIfInBounds_toArray, List.set_cons_zero, List.set_cons_succ]
  refine restS_take (v := ?_) 2 rfl (by kernel_rfl) (by kernel_rfl) (by kernel_rfl) (fun _ _ _ h => h) (by rfl) ?_ ?_
  rotate_left
  · intro w9 h9; try dsimp only at h9
    obtain ⟨x9, rfl⟩ := later_of h9
    go_simp; try with_reducible rfl
  try simp only [Act.put, List.setIfInBounds_toArray, List.set_cons_zero, List.set_cons_succ]
  refine restS_take (v := ?_) 3 rfl (by kernel_rfl) (by kernel_rfl) (by kernel_rfl) (fun _ _ _ h => h) (by rfl) ?_ ?_
  rotate_left
  · intro w9 h9; try dsimp only at h9
    go_split_ands
    go_simp; try with_reducible rfl
  try simp only [Act.put, List.setIfInBounds_toArray, List.set_cons_zero, List.set_cons_succ]
  refine restS_take (v := ?_) 4 rfl (by kernel_rfl) (by kernel_rfl) (by kernel_rfl) (fun _ _ _ h => h) (by rfl) ?_ ?_
  rotate_left
  · intro w9 h9; try dsimp only at h9
    go_split_ands
    go_simp; try with_reducible rfl
  try simp only [Act.put, List.setIfInBounds_toArray, List.set_cons_zero, List.set_cons_succ]
  refine restS_take (v := ?_) 5 rfl (by kernel_rfl) (by kernel_rfl) (by kernel_rfl) (fun _ _ _ h => h) (by rfl) ?_ ?_
  rotate_left
  · intro w9 h9; try dsimp only at h9
    obtain ⟨x9, rfl⟩ := later_of h9
    go_simp; try with_reducible rfl
  try simp only [Act.put, List.setIfInBounds_toArray, List.set_cons_zero, List.set_cons_succ]
  refine restS_take (v := ?_) 6 rfl (by kernel_rfl) (by kernel_rfl) (by kernel_rfl) (fun _ _ _ h => h) (by rfl) ?_ ?_
  rotate_left
  · intro w9 h9; try dsimp only at h9
    go_split_ands
    go_simp; try with_reducible rfl
  try simp only [Act.put, List.setIfInBounds_toArray, List.set_cons_zero, List.set_cons_succ]
  refine restS_alone 7 rfl (by kernel_rfl) (by rfl) (fun hS K hK => ?_)
  go_wp2_with fail
  refine hK.out _ _ (by (repeat (first | with_reducible exact Below.refl _ _ | ((with_reducible refine bl_alloc ?_ ?_); (focus (first | (simp; done) | (simp; omega) | omega))) | ((with_reducible refine bl_set ?_ ?_); (focus (first | (simp; done) | (simp; omega) | omega))) | ((with_reducible refine bl_later ?_ ?_); (focus (first | (simp; done) | (simp; omega) | omega))) | with_reducible refine bl_drew ?_ | with_reducible refine bl_drewN ?_ | ((with_reducible refine bl_step (by assumption) ?_ ?_); (focus (first | (simp; done) | (simp; omega) | omega)))))) ?_
  try simp only [Act.put, List.setIfInBounds_toArray, List.set_cons_zero, List.set_cons_succ]
  clear hK K hS
  refine restS_alone 8 rfl (by kernel_rfl) (by rfl) (fun hS K hK => ?_)
  go_wp2_with fail
  refine hK.out _ _ (by (repeat (first | with_reducible exact Below.refl _ _ | ((with_reducible refine bl_alloc ?_ ?_); (focus (first | (simp; done) | (simp; omega) | omega))) | ((with_reducible refine bl_set ?_ ?_); (focus (first | (simp; done) | (simp; omega) | omega))) | ((with_reducible refine bl_later ?_ ?_); (focus (first | (simp; done) | (simp; omega) | omega))) | with_reducible refine bl_drew ?_ | with_reducible refine bl_drewN ?_ | ((with_reducible refine bl_step (by assumption) ?_ ?_); (focus (first | (simp; done) | (simp; omega) | omega)))))) ?_
  try simp only [Act.put, List.setIfInBounds_toArray, List.set_cons_zero, List.set_cons_succ]
  clear hK K hS
  refine restS_done (by kernel_rfl) (fun hS => ?_)
  have hsl := Hsl5.out
  go_wp2_with fail
  clear hsl
  go_loopw [4] (fun v wr => ∃ (q : List Int) (D : List (Int × Int × Int × Int × Int × Int × Int × Int × Int)) (ao2 : Option Addr) (cap2 : Nat) (ao' : Option Addr) (cap' : Nat), v = .slice ao2 q.length cap2 ∧ q.length ≤ cap2 ∧ IntsR w ao2 q ∧ Hid ((chunk9 r).map entFix = D ++ (chunk9 q).map entFix) ∧ Hid (D.length * 9 + q.length ≤ 1000) ∧ Bx wr (w.heap.size + 1) [.int .i64 p0, .int .i64 p1, .slice ao' D.length cap'] ∧ Fx wr (w.heap.size + 1) ∧ Bx wr w.heap.size [.int .i64 0, .int .i64 0, .slice none 0 0] ∧ Fx wr w.heap.size ∧ OwnA entryE wr (w.heap.size + 1 + 1) 70 (.slice ao' D.length cap') D ∧ Below w.heap.size w wr)
    (fun v _ => match v with | .slice _ m _ => m | _ => 0)
  case atStart => exact ⟨r, [], ao3, cap - 2, none, 0, rfl, by omega, HR3.out, rfl, (by show _ ≤ 1000; simp; omega), HBx.out, HFx.out, HBz.out, HFz.out, ownA_nil _ _ _ _, hS⟩
  case round =>
    obtain ⟨q, D, ao2, cap2, ao', cap', rfl, hq2, hq, Hd, HdL, hBx, hFx, hBz, hFz, hOw, hbel⟩ := hrel
    by_cases h9 : q.length < 9
    · have e : D = (chunk9 r).map entFix := by rw [Hd.out, chunk9_short h9]; simp
      subst e
      have hd : decide ((9 : Int) ≤ (q.length : Int)) = false := by simp; omega
      have q0 := hBx.2
      have q1 := hBz.2
      have q2 := hFz.2
      go_wp2_with fail
      refine bodyPost_ret (v := .agg #[.int .i64 p0, .int .i64 p1, .slice ao' ((chunk9 r).map entFix).length cap']) (by simp only [List.length_map] at *; simp [results, Try.results141, go_sem, *]) rfl ⟨ao', cap', rfl, ?_, by (repeat (first | with_reducible exact Below.refl _ _ | ((with_reducible refine bl_alloc ?_ ?_); (focus (first | (simp; done) | (simp; omega) | omega))) | ((with_reducible refine bl_set ?_ ?_); (focus (first | (simp; done) | (simp; omega) | omega))) | ((with_reducible refine bl_later ?_ ?_); (focus (first | (simp; done) | (simp; omega) | omega))) | with_reducible refine bl_drew ?_ | with_reducible refine bl_drewN ?_ | ((with_reducible refine bl_step (by assumption) ?_ ?_); (focus (first | (simp; done) | (simp; omega) | omega)))))⟩
      refine OwnA.weak (lo := w.heap.size + 1 + 1) (by omega) ?_
      repeat (first | ((with_reducible refine OwnA.set ?_ ?_); (focus (first | (simp; done) | (simp; omega) | omega))))
      exact hOw
    · obtain ⟨x0, x1, x2, x3, x4, x5, x6, x7, x8, q, rfl⟩ := cut9 (q := q) (by omega)
      obtain ⟨ao5, hsh, hR5⟩ := slice_high (P := Try.prog) (t := 22) Try.underlying22 hi hz1 cap2 9 hq (by simp) (by simpa using hq2)
      obtain ⟨ao4, hsl, hR4⟩ := slice_low (P := Try.prog) (t := 22) Try.underlying22 hi hz1 cap2 9 hq (by simp) (by simpa using hq2)
      have hsh2 : ∀ W, (Instr.slice 22 (.slice ao2 (x0 :: x1 :: x2 :: x3 :: x4 :: x5 :: x6 :: x7 :: x8 :: q).length cap2) none (some (.int .i64 9)) none).run Try.prog W = .ok (.slice ao5 9 cap2) W := hsh
      have hsl2 : ∀ W, (Instr.slice 22 (.slice ao2 (x0 :: x1 :: x2 :: x3 :: x4 :: x5 :: x6 :: x7 :: x8 :: q).length cap2) (some (.int .i64 9)) none none).run Try.prog W = .ok (.slice ao4 q.length (cap2 - 9)) W := hsl
      simp only [List.take_succ_cons, List.take_zero] at hR5
      simp only [List.drop_succ_cons, List.drop_zero] at hR4
      have hc9 : 9 ≤ cap2 := by simp only [List.length_cons] at hq2; omega
      simp only [List.length_cons] at hsh2 hsl2
      have HR5 := Lib.hid hR5
      have HR4 := Lib.hid hR4
      have hb9 : (9 : Int) ≤ (q.length : Int) + 1 + 1 + 1 + 1 + 1 + 1 + 1 + 1 + 1 := by omega
      have hDl : D.length ≤ 1000 := by have h7 := HdL.out; omega
      clear hR5 hR4 hsh hsl h9
      cases hE : entryOk x0 x1 x2 x3 x4 x5 x6 x7 x8
      · have hfix : entFix (x0, x1, x2, x3, x4, x5, x6, x7, x8) = (0, 0, 0, 0, 0, 0, 0, 0, 0) := by simp [entFix, entB, hE]
        have hOk : entryE.ok (0, 0, 0, 0, 0, 0, 0, 0, 0) := ⟨by simp [inI64], by simp [inI64], by simp [inI64], by simp [inI64], by simp [inI64], by simp [inI64], by simp [inI64], by simp [inI64], by simp [inI64]⟩
        go_wp2_with (first | (at_builtin; refine wpList_append_rows (E := entryE) rfl _ _ _ rfl (w.heap.size + 1 + 1) 70 j0 (.agg #[.int .i64 0, .int .i64 0, .int .i64 0, .int .i64 0, .int .i64 0, .int .i64 0, .int .i64 0, .int .i64 0, .int .i64 0]) 72 Try.underlying42 hj hj0 hj1 hj2 rfl (by omega) entry_one _ _ _ _ D [(0, 0, 0, 0, 0, 0, 0, 0, 0)] rfl ((hOw4.below ((Below.refl _ _).alloc (Nat.le_refl _) (.cells ([.int .i64 0, .int .i64 0, .int .i64 0, .int .i64 0, .int .i64 0, .int .i64 0, .int .i64 0, .int .i64 0, .int .i64 0] : List Value).toArray 70))).below ((Below.refl _ _).alloc (Nat.le_refl _) (.cells ([.int .i64 0, .int .i64 0, .int .i64 0, .int .i64 0, .int .i64 0, .int .i64 0, .int .i64 0, .int .i64 0, .int .i64 0] : List Value).toArray 70))) rfl (HL.out).read (by simp only [List.length_cons, List.length_nil]; omega) (by have h7 := hBx4.1; simp only [World.size_alloc]; omega) (fun a5 c5 w5 ho5 hg5 => ?_); have hlt2 := hOw4.2.2.lt; have hBx5 := ((hBx4.alloc (.cells ([.int .i64 0, .int .i64 0, .int .i64 0, .int .i64 0, .int .i64 0, .int .i64 0, .int .i64 0, .int .i64 0, .int .i64 0] : List Value).toArray 70)).alloc (.cells ([.int .i64 0, .int .i64 0, .int .i64 0, .int .i64 0, .int .i64 0, .int .i64 0, .int .i64 0, .int .i64 0, .int .i64 0] : List Value).toArray 70)).grown hg5 (fun e => by have h7 := (hlt2 _ e).1; omega); have hFx5 := ((hFx4.alloc (.cells ([.int .i64 0, .int .i64 0, .int .i64 0, .int .i64 0, .int .i64 0, .int .i64 0, .int .i64 0, .int .i64 0, .int .i64 0] : List Value).toArray 70)).alloc (.cells ([.int .i64 0, .int .i64 0, .int .i64 0, .int .i64 0, .int .i64 0, .int .i64 0, .int .i64 0, .int .i64 0, .int .i64 0] : List Value).toArray 70)).grown hg5 (fun e => by have h7 := (hlt2 _ e).1; omega); have hBz5 := ((hBz4.alloc (.cells ([.int .i64 0, .int .i64 0, .int .i64 0, .int .i64 0, .int .i64 0, .int .i64 0, .int .i64 0, .int .i64 0, .int .i64 0] : List Value).toArray 70)).alloc (.cells ([.int .i64 0, .int .i64 0, .int .i64 0, .int .i64 0, .int .i64 0, .int .i64 0, .int .i64 0, .int .i64 0, .int .i64 0] : List Value).toArray 70)).grown hg5 (fun e => by have h7 := (hlt2 _ e).1; omega); have hFz5 := ((hFz4.alloc (.cells ([.int .i64 0, .int .i64 0, .int .i64 0, .int .i64 0, .int .i64 0, .int .i64 0, .int .i64 0, .int .i64 0, .int .i64 0] : List Value).toArray 70)).alloc (.cells ([.int .i64 0, .int .i64 0, .int .i64 0, .int .i64 0, .int .i64 0, .int .i64 0, .int .i64 0, .int .i64 0, .int .i64 0] : List Value).toArray 70)).grown hg5 (fun e => by have h7 := (hlt2 _ e).1; omega); have hB5 := bl_grown hg5 (by have h7 := hbel4.size; simp only [World.size_alloc]; omega) (fun k hk => Nat.le_trans (by omega) (hlt2 k hk).1) ((hbel4.alloc hbel4.size (.cells ([.int .i64 0, .int .i64 0, .int .i64 0, .int .i64 0, .int .i64 0, .int .i64 0, .int .i64 0, .int .i64 0, .int .i64 0] : List Value).toArray 70)).alloc (by have h7 := hbel4.size; simp only [World.size_alloc]; omega) (.cells ([.int .i64 0, .int .i64 0, .int .i64 0, .int .i64 0, .int .i64 0, .int .i64 0, .int .i64 0, .int .i64 0, .int .i64 0] : List Value).toArray 70)); have q6 := hBx5.2; have q7 := hFx5.2; clear q0) | (go_at_call 142; refine (c_impl_RowEntry_f _ _ x0 x1 x2 x3 x4 x5 x6 x7 x8 _ (HR5.out.below (by (repeat (first | with_reducible exact Below.refl _ _ | ((with_reducible refine bl_alloc ?_ ?_); (focus (first | (simp; done) | (simp; omega) | omega))) | ((with_reducible refine bl_set ?_ ?_); (focus (first | (simp; done) | (simp; omega) | omega))) | ((with_reducible refine bl_later ?_ ?_); (focus (first | (simp; done) | (simp; omega) | omega))) | with_reducible refine bl_drew ?_ | with_reducible refine bl_drewN ?_ | ((with_reducible refine bl_step (by assumption) ?_ ?_); (focus (first | (simp; done) | (simp; omega) | omega))))))) (by omega) hE).mono ?_; rintro e w4 ⟨rfl, hb4⟩; have hBx4 := hBx.below hb4; have hFx4 := hFx.below hb4; have hBz4 := hBz.below hb4; have hFz4 := hFz.below hb4; have hOw4 := hOw.below hb4; have hbel4 := bl_step hb4 hbel.size hbel; have HL := Lib.hid (lit_entry w4 (.cells ([.int .i64 0, .int .i64 0, .int .i64 0, .int .i64 0, .int .i64 0, .int .i64 0, .int .i64 0, .int .i64 0, .int .i64 0] : List Value).toArray 70) 0 0 0 0 0 0 0 0 0 hOk); have q0 := hBx4.2; have hBl := hBx4.1; clear hb4))
        have hDx := hBx5.set 2 (.slice a5 (D.length + 1) c5) (by simp)
        simp only [List.set_cons_succ, List.set_cons_zero] at hDx
        go_roundw
        case rel => exact ⟨q, D ++ [(0, 0, 0, 0, 0, 0, 0, 0, 0)], ao4, cap2 - 9, a5, c5, rfl, by simp only [List.length_cons] at hq2; omega, HR4.out, (by show (chunk9 r).map entFix = _; rw [Hd.out]; simp [chunk9, hfix]), (by show _ ≤ 1000; have h7 := HdL.out; simp only [List.length_append, List.length_cons, List.length_nil] at h7 ⊢; omega), (by rw [List.length_append]; exact hDx), hFx5.set _ _, hBz5.setOther _ _ (by simp), hFz5.set _ _, ho5.set (by simp), hB5.setCell (by simp) _⟩
        case measure => simp; omega
      · have hfix : entFix (x0, x1, x2, x3, x4, x5, x6, x7, x8) = (x0, x1, x2, x3, x4, x5, x6, x7, x8) := by simp [entFix, entB, hE]
        have hOk : entryE.ok (x0, x1, x2, x3, x4, x5, x6, x7, x8) := ⟨hq.1 _ (by simp), hq.1 _ (by simp), hq.1 _ (by simp), hq.1 _ (by simp), hq.1 _ (by simp), hq.1 _ (by simp), hq.1 _ (by simp), hq.1 _ (by simp), hq.1 _ (by simp)⟩
        go_wp2_with (first | (at_builtin; refine wpList_append_rows (E := entryE) rfl _ _ _ rfl (w.heap.size + 1 + 1) 70 j0 (.agg #[.int .i64 0, .int .i64 0, .int .i64 0, .int .i64 0, .int .i64 0, .int .i64 0, .int .i64 0, .int .i64 0, .int .i64 0]) 72 Try.underlying42 hj hj0 hj1 hj2 rfl (by omega) entry_one _ _ _ _ D [(x0, x1, x2, x3, x4, x5, x6, x7, x8)] rfl ((hOw4.below ((Below.refl _ _).alloc (Nat.le_refl _) (.cells ([.int .i64 x0, .int .i64 x1, .int .i64 x2, .int .i64 x3, .int .i64 x4, .int .i64 x5, .int .i64 x6, .int .i64 x7, .int .i64 x8] : List Value).toArray 70))).below ((Below.refl _ _).alloc (Nat.le_refl _) (.cells ([.int .i64 x0, .int .i64 x1, .int .i64 x2, .int .i64 x3, .int .i64 x4, .int .i64 x5, .int .i64 x6, .int .i64 x7, .int .i64 x8] : List Value).toArray 70))) rfl (HL.out).read (by simp only [List.length_cons, List.length_nil]; omega) (by have h7 := hBx4.1; simp only [World.size_alloc]; omega) (fun a5 c5 w5 ho5 hg5 => ?_); have hlt2 := hOw4.2.2.lt; have hBx5 := ((hBx4.alloc (.cells ([.int .i64 x0, .int .i64 x1, .int .i64 x2, .int .i64 x3, .int .i64 x4, .int .i64 x5, .int .i64 x6, .int .i64 x7, .int .i64 x8] : List Value).toArray 70)).alloc (.cells ([.int .i64 x0, .int .i64 x1, .int .i64 x2, .int .i64 x3, .int .i64 x4, .int .i64 x5, .int .i64 x6, .int .i64 x7, .int .i64 x8] : List Value).toArray 70)).grown hg5 (fun e => by have h7 := (hlt2 _ e).1; omega); have hFx5 := ((hFx4.alloc (.cells ([.int .i64 x0, .int .i64 x1, .int .i64 x2, .int .i64 x3, .int .i64 x4, .int .i64 x5, .int .i64 x6, .int .i64 x7, .int .i64 x8] : List Value).toArray 70)).alloc (.cells ([.int .i64 x0, .int .i64 x1, .int .i64 x2, .int .i64 x3, .int .i64 x4, .int .i64 x5, .int .i64 x6, .int .i64 x7, .int .i64 x8] : List Value).toArray 70)).grown hg5 (fun e => by have h7 := (hlt2 _ e).1; omega); have hBz5 := ((hBz4.alloc (.cells ([.int .i64 x0, .int .i64 x1, .int .i64 x2, .int .i64 x3, .int .i64 x4, .int .i64 x5, .int .i64 x6, .int .i64 x7, .int .i64 x8] : List Value).toArray 70)).alloc (.cells ([.int .i64 x0, .int .i64 x1, .int .i64 x2, .int .i64 x3, .int .i64 x4, .int .i64 x5, .int .i64 x6, .int .i64 x7, .int .i64 x8] : List Value).toArray 70)).grown hg5 (fun e => by have h7 := (hlt2 _ e).1; omega); have hFz5 := ((hFz4.alloc (.cells ([.int .i64 x0, .int .i64 x1, .int .i64 x2, .int .i64 x3, .int .i64 x4, .int .i64 x5, .int .i64 x6, .int .i64 x7, .int .i64 x8] : List Value).toArray 70)).alloc (.cells ([.int .i64 x0, .int .i64 x1, .int .i64 x2, .int .i64 x3, .int .i64 x4, .int .i64 x5, .int .i64 x6, .int .i64 x7, .int .i64 x8] : List Value).toArray 70)).grown hg5 (fun e => by have h7 := (hlt2 _ e).1; omega); have hB5 := bl_grown hg5 (by have h7 := hbel4.size; simp only [World.size_alloc]; omega) (fun k hk => Nat.le_trans (by omega) (hlt2 k hk).1) ((hbel4.alloc hbel4.size (.cells ([.int .i64 x0, .int .i64 x1, .int .i64 x2, .int .i64 x3, .int .i64 x4, .int .i64 x5, .int .i64 x6, .int .i64 x7, .int .i64 x8] : List Value).toArray 70)).alloc (by have h7 := hbel4.size; simp only [World.size_alloc]; omega) (.cells ([.int .i64 x0, .int .i64 x1, .int .i64 x2, .int .i64 x3, .int .i64 x4, .int .i64 x5, .int .i64 x6, .int .i64 x7, .int .i64 x8] : List Value).toArray 70)); have q6 := hBx5.2; have q7 := hFx5.2; clear q0) | (go_at_call 142; refine (c_impl_RowEntry_t _ _ x0 x1 x2 x3 x4 x5 x6 x7 x8 _ (HR5.out.below (by (repeat (first | with_reducible exact Below.refl _ _ | ((with_reducible refine bl_alloc ?_ ?_); (focus (first | (simp; done) | (simp; omega) | omega))) | ((with_reducible refine bl_set ?_ ?_); (focus (first | (simp; done) | (simp; omega) | omega))) | ((with_reducible refine bl_later ?_ ?_); (focus (first | (simp; done) | (simp; omega) | omega))) | with_reducible refine bl_drew ?_ | with_reducible refine bl_drewN ?_ | ((with_reducible refine bl_step (by assumption) ?_ ?_); (focus (first | (simp; done) | (simp; omega) | omega))))))) (by omega) hE).mono ?_; rintro e w4 ⟨rfl, hb4⟩; have hBx4 := hBx.below hb4; have hFx4 := hFx.below hb4; have hBz4 := hBz.below hb4; have hFz4 := hFz.below hb4; have hOw4 := hOw.below hb4; have hbel4 := bl_step hb4 hbel.size hbel; have HL := Lib.hid (lit_entry w4 (.cells ([.int .i64 x0, .int .i64 x1, .int .i64 x2, .int .i64 x3, .int .i64 x4, .int .i64 x5, .int .i64 x6, .int .i64 x7, .int .i64 x8] : List Value).toArray 70) x0 x1 x2 x3 x4 x5 x6 x7 x8 hOk); have q0 := hBx4.2; have hBl := hBx4.1; clear hb4))
        have hDx := hBx5.set 2 (.slice a5 (D.length + 1) c5) (by simp)
        simp only [List.set_cons_succ, List.set_cons_zero] at hDx
        go_roundw
        case rel => exact ⟨q, D ++ [(x0, x1, x2, x3, x4, x5, x6, x7, x8)], ao4, cap2 - 9, a5, c5, rfl, by simp only [List.length_cons] at hq2; omega, HR4.out, (by show (chunk9 r).map entFix = _; rw [Hd.out]; simp [chunk9, hfix]), (by show _ ≤ 1000; have h7 := HdL.out; simp only [List.length_append, List.length_cons, List.length_nil] at h7 ⊢; omega), (by rw [List.length_append]; exact hDx), hFx5.set _ _, hBz5.setOther _ _ (by simp), hFz5.set _ _, ho5.set (by simp), hB5.setCell (by simp) _⟩
        case measure => simp; omega

end Go.Proofs.Ytpfkfppooeikeaa
