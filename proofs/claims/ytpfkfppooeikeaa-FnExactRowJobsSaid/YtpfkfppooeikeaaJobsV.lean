/- Walks of functions of the program, printed by a program of the prover. -/
import Derived.Test.YtpfkfppooeikeaaJobsC
import Derived.WalkKit
import Derived.WalkSpells
import Derived.Deep.QuietTactic
import Derived.BigQuiet
import Derived.Deep.Light
import Derived.Lib.Hide
import Derived.Deep.RegionHeld3
import Derived.IntWalk
namespace Go.Proofs.Ytpfkfppooeikeaa
open Go.ChangeShapes Go.WideShapes Go.ChangeAt Go.RowKit Go.Deep
set_option maxHeartbeats 1600000
set_option maxRecDepth 100000

def isJobs : List Int → Bool
  | x0 :: p0 :: p1 :: p2 :: p3 :: p4 :: r => decide (r.length ≤ 16) && (decide (r.length % 2 = 0) && ((x0 == 9) && jobsOk p0 p1 p2 p3 p4 (duesOf r)))
  | _ => false
def jobsHead0 : List Int → Int × Int × Int × Int × Int
  | _ :: p0 :: p1 :: p2 :: p3 :: p4 :: _ => (p0, p1, p2, p3, p4)
  | _ => (0, 0, 0, 0, 0)
def jobsHead (l : List Int) : Int × Int × Int × Int × Int := if isJobs l then jobsHead0 l else (0, 0, 0, 0, 0)
def jobsOpen (l : List Int) : List (Int × Int) := if isJobs l then duesOf (l.drop 6) else []
def RetRowJobs (w : World) (l : List Int) (e : Ending) (w' : World) : Prop :=
  ∃ (ao : Option Addr) (cap : Nat), e = .returned (.tuple #[.agg #[.int .i64 (jobsHead l).1, .int .i64 (jobsHead l).2.1, .int .i64 (jobsHead l).2.2.1, .int .i64 (jobsHead l).2.2.2.1, .int .i64 (jobsHead l).2.2.2.2, .slice ao (jobsOpen l).length cap], .bool (isJobs l)]) ∧
    OwnA dueE w' w.heap.size 113 (.slice ao (jobsOpen l).length cap) (jobsOpen l) ∧ Below w.heap.size w w'
theorem retRowJobs_no {w w' : World} {l : List Int} (h : isJobs l = false) (hb : Below w.heap.size w w') : RetRowJobs w l (.returned (.tuple #[.agg #[.int .i64 0, .int .i64 0, .int .i64 0, .int .i64 0, .int .i64 0, .slice none 0 0], .bool false])) w' := by
  have e1 : jobsHead l = (0, 0, 0, 0, 0) := by simp [jobsHead, h]
  have e2 : jobsOpen l = [] := by simp [jobsOpen, h]
  refine ⟨none, 0, by rw [e1, e2, h]; rfl, ?_, hb⟩
  rw [e2]
  exact ownA_nil _ _ _ _
theorem retRowJobs_yes {w w' : World} {x0 p0 p1 p2 p3 p4 : Int} {r : List Int} {ao : Option Addr} {cap : Nat} (h : isJobs (x0 :: p0 :: p1 :: p2 :: p3 :: p4 :: r) = true) (ho : OwnA dueE w' w.heap.size 113 (.slice ao (duesOf r).length cap) (duesOf r)) (hb : Below w.heap.size w w') :
    RetRowJobs w (x0 :: p0 :: p1 :: p2 :: p3 :: p4 :: r) (.returned (.tuple #[.agg #[.int .i64 p0, .int .i64 p1, .int .i64 p2, .int .i64 p3, .int .i64 p4, .slice ao (duesOf r).length cap], .bool true])) w' := by
  have e1 : jobsHead (x0 :: p0 :: p1 :: p2 :: p3 :: p4 :: r) = (p0, p1, p2, p3, p4) := by simp [jobsHead, jobsHead0, h]
  have e2 : jobsOpen (x0 :: p0 :: p1 :: p2 :: p3 :: p4 :: r) = duesOf r := by simp [jobsOpen, h]
  refine ⟨ao, cap, by rw [e1, e2, h], ?_, hb⟩
  rw [e2]
  exact ho
theorem isJobs_short {l : List Int} (h : l.length < 6) : isJobs l = false := by
  match l, h with
  | [], _ => rfl
  | [_], _ => rfl
  | [_, _], _ => rfl
  | [_, _, _], _ => rfl
  | [_, _, _, _], _ => rfl
  | [_, _, _, _, _], _ => rfl
  | _ :: _ :: _ :: _ :: _ :: _ :: _, h => simp at h; omega
theorem isJobs_long {l : List Int} (h : 22 < l.length) : isJobs l = false := by
  match l, h with
  | _ :: _ :: _ :: _ :: _ :: _ :: r, h =>
    have : decide (r.length ≤ 16) = false := by simp at h ⊢; omega
    simp [isJobs, this]
  | [], h => simp at h
  | [_], h => simp at h
  | [_, _], h => simp at h
  | [_, _, _], h => simp at h
  | [_, _, _, _], h => simp at h
  | [_, _, _, _, _], h => simp at h
theorem isJobs_odd {l : List Int} (h : l.length % 2 ≠ 0) : isJobs l = false := by
  by_cases h6 : l.length < 6
  · exact isJobs_short h6
  · match l, h, h6 with
    | _ :: _ :: _ :: _ :: _ :: _ :: r, h, _ =>
      have : decide (r.length % 2 = 0) = false := by simp at h ⊢; omega
      simp [isJobs, this]
    | [], _, h6 => simp at h6
    | [_], _, h6 => simp at h6
    | [_, _], _, h6 => simp at h6
    | [_, _, _], _, h6 => simp at h6
    | [_, _, _, _], _, h6 => simp at h6
    | [_, _, _, _, _], _, h6 => simp at h6
theorem headD_eq {l : List Int} (h : 0 < l.length) : l.headD 0 = l[0] := by
  cases l with
  | nil => simp at h
  | cons x r => rfl
theorem six {l : List Int} (h : 6 ≤ l.length) : ∃ x0 p0 p1 p2 p3 p4 r, l = x0 :: p0 :: p1 :: p2 :: p3 :: p4 :: r := by
  match l, h with
  | x0 :: p0 :: p1 :: p2 :: p3 :: p4 :: r, _ => exact ⟨x0, p0, p1, p2, p3, p4, r, rfl⟩
  | [], h => simp at h
  | [_], h => simp at h
  | [_, _], h => simp at h
  | [_, _, _], h => simp at h
  | [_, _, _, _], h => simp at h
  | [_, _, _, _, _], h => simp at h
theorem c_spec_RowJobs_bad (ao : Option Addr) (cap : Nat) (l : List Int) (w : World) (hh : IntsR w ao l) (hbad : l.length < 6 ∨ 22 < l.length ∨ l.length % 2 ≠ 0 ∨ l.headD 0 ≠ 9) :
    Calls Try.prog 81 #[.slice ao l.length cap] w fun e w' => e = .returned (.tuple #[.agg #[.int .i64 0, .int .i64 0, .int .i64 0, .int .i64 0, .int .i64 0, .slice none 0 0], .bool false]) ∧ Below w.heap.size w w' := by
  have hm := hh.2.1
  by_cases h1 : l.length < 6
  · have e1 : decide ((l.length : Int) < 6) = true := by simp; omega
    go_enter Try.func81, Try.ntmps81
    go_wp2_with fail
    refine bodyPost_ret (v := .tuple #[.agg #[.int .i64 0, .int .i64 0, .int .i64 0, .int .i64 0, .int .i64 0, .slice none 0 0], .bool false]) (by simp [results, Try.results81, go_sem, *]) rfl ⟨rfl, ?_⟩
    (repeat (first | with_reducible exact Below.refl _ _ | ((with_reducible refine bl_alloc ?_ ?_); (focus (first | (simp; done) | (simp; omega) | omega))) | ((with_reducible refine bl_set ?_ ?_); (focus (first | (simp; done) | (simp; omega) | omega))) | ((with_reducible refine bl_later ?_ ?_); (focus (first | (simp; done) | (simp; omega) | omega))) | with_reducible refine bl_drew ?_ | with_reducible refine bl_drewN ?_ | ((with_reducible refine bl_step (by assumption) ?_ ?_); (focus (first | (simp; done) | (simp; omega) | omega)))))
  by_cases h2 : 22 < l.length
  · have e1 : decide ((l.length : Int) < 6) = false := by simp; omega
    have e2 : decide ((22 : Int) < (l.length : Int)) = true := by simp; omega
    go_enter Try.func81, Try.ntmps81
    go_wp2_with fail
    refine bodyPost_ret (v := .tuple #[.agg #[.int .i64 0, .int .i64 0, .int .i64 0, .int .i64 0, .int .i64 0, .slice none 0 0], .bool false]) (by simp [results, Try.results81, go_sem, *]) rfl ⟨rfl, ?_⟩
    (repeat (first | with_reducible exact Below.refl _ _ | ((with_reducible refine bl_alloc ?_ ?_); (focus (first | (simp; done) | (simp; omega) | omega))) | ((with_reducible refine bl_set ?_ ?_); (focus (first | (simp; done) | (simp; omega) | omega))) | ((with_reducible refine bl_later ?_ ?_); (focus (first | (simp; done) | (simp; omega) | omega))) | with_reducible refine bl_drew ?_ | with_reducible refine bl_drewN ?_ | ((with_reducible refine bl_step (by assumption) ?_ ?_); (focus (first | (simp; done) | (simp; omega) | omega)))))
  have hp : (0 : Int) < (l.length : Int) := by omega
  have h0l : 0 < l.length := by omega
  have e1 : decide ((l.length : Int) < 6) = false := by simp; omega
  have e2 : decide ((22 : Int) < (l.length : Int)) = false := by simp; omega
  by_cases h3 : l.length % 2 ≠ 0
  · have e3 : ((l.length : Int) % 2 != 0) = true := by simp only [bne_iff_ne, ne_eq]; omega
    have H3 := Lib.hid h3
    clear h3
    go_enter Try.func81, Try.ntmps81
    go_wp2_with fail
    refine bodyPost_ret (v := .tuple #[.agg #[.int .i64 0, .int .i64 0, .int .i64 0, .int .i64 0, .int .i64 0, .slice none 0 0], .bool false]) (by simp [results, Try.results81, go_sem, *]) rfl ⟨rfl, ?_⟩
    (repeat (first | with_reducible exact Below.refl _ _ | ((with_reducible refine bl_alloc ?_ ?_); (focus (first | (simp; done) | (simp; omega) | omega))) | ((with_reducible refine bl_set ?_ ?_); (focus (first | (simp; done) | (simp; omega) | omega))) | ((with_reducible refine bl_later ?_ ?_); (focus (first | (simp; done) | (simp; omega) | omega))) | with_reducible refine bl_drew ?_ | with_reducible refine bl_drewN ?_ | ((with_reducible refine bl_step (by assumption) ?_ ?_); (focus (first | (simp; done) | (simp; omega) | omega)))))
  have e3 : ((l.length : Int) % 2 != 0) = false := by simp only [bne_eq_false_iff_eq]; omega
  obtain ⟨b0, off, rfl, hbl, hr0, hc⟩ := hh.at (k := 0) h0l
  have k0 := hc 0 h0l
  have hd := headD_eq (l := l) h0l
  have e4 : (l[0] != 9) = true := by simp only [bne_iff_ne, ne_eq]; rw [← hd]; omega
  rw [Nat.add_zero] at k0
  have Hd := Lib.hid hd
  have H3 := Lib.hid h3
  clear hc hd hr0 h3 hbad
  have hbl1 : b0 < w.heap.size + 1 := by omega
  go_enter Try.func81, Try.ntmps81
  go_wp2_with fail
  refine bodyPost_ret (v := .tuple #[.agg #[.int .i64 0, .int .i64 0, .int .i64 0, .int .i64 0, .int .i64 0, .slice none 0 0], .bool false]) (by simp [results, Try.results81, go_sem, *]) rfl ⟨rfl, ?_⟩
  (repeat (first | with_reducible exact Below.refl _ _ | ((with_reducible refine bl_alloc ?_ ?_); (focus (first | (simp; done) | (simp; omega) | omega))) | ((with_reducible refine bl_set ?_ ?_); (focus (first | (simp; done) | (simp; omega) | omega))) | ((with_reducible refine bl_later ?_ ?_); (focus (first | (simp; done) | (simp; omega) | omega))) | with_reducible refine bl_drew ?_ | with_reducible refine bl_drewN ?_ | ((with_reducible refine bl_step (by assumption) ?_ ?_); (focus (first | (simp; done) | (simp; omega) | omega)))))
theorem c_spec_RowJobs_shape (ao : Option Addr) (cap : Nat) (l : List Int) (p0 p1 p2 p3 p4 : Int) (r : List Int) (w : World) (hh : IntsR w ao l) (Hl : Hid (l = 9 :: p0 :: p1 :: p2 :: p3 :: p4 :: r)) (hl6 : 6 ≤ l.length) (hl22 : l.length ≤ 22) (hev : Hid (l.length % 2 = 0)) :
    Calls Try.prog 81 #[.slice ao l.length cap] w (RetRowJobs w l) := by
  have hm := hh.2.1
  obtain ⟨j0, hj, hj0, hj1, hj2⟩ := info_parts info_Due
  have hlen : Hid (l.length = 6 + r.length) := by show l.length = _; rw [Hl.out]; simp; omega
  have hlr : r.length ≤ 16 := by have := hlen.out; omega
  have hh2 : IntsR w ao (9 :: p0 :: p1 :: p2 :: p3 :: p4 :: r) := Hl.out ▸ hh
  obtain ⟨b0, off, rfl, hbl, hr0, hc⟩ := hh2.at (k := 0) (by simp)
  have k0 := hc 0 (by simp)
  have k1 := hc 1 (by simp)
  have k2 := hc 2 (by simp)
  have k3 := hc 3 (by simp)
  have k4 := hc 4 (by simp)
  have k5 := hc 5 (by simp)
  have Hqs : Hid (∀ j x, r[j]? = some x → w.cell? ⟨b0, off + 6 + j, none⟩ = some (.int .i64 x)) := fun j x hj => by
    have hlt : j < r.length := (List.getElem?_eq_some_iff.1 hj).1
    have h7 := hc (j + 6) (by simp; omega)
    simp only [List.getElem_cons_succ] at h7
    rw [show off + 6 + j = off + (j + 6) by omega, h7]
    rw [List.getElem?_eq_getElem hlt] at hj
    simpa using hj
  have Hri : Hid (∀ x ∈ r, inI64 x) := fun x hx => hh2.1 x (by simp [hx])
  simp only [List.getElem_cons_zero, List.getElem_cons_succ, Nat.add_zero] at k0 k1 k2 k3 k4 k5
  have hbl1 : b0 < w.heap.size + 1 := by omega
  have hp0 : (0 : Int) < (l.length : Int) := by omega
  have hp1 : (1 : Int) < (l.length : Int) := by omega
  have hp2 : (2 : Int) < (l.length : Int) := by omega
  have hp3 : (3 : Int) < (l.length : Int) := by omega
  have hp4 : (4 : Int) < (l.length : Int) := by omega
  have hp5 : (5 : Int) < (l.length : Int) := by omega
  have e1 : decide ((l.length : Int) < 6) = false := by simp; omega
  have e2 : decide ((22 : Int) < (l.length : Int)) = false := by simp; omega
  have e3 : ((l.length : Int) % 2 != 0) = false := by have h7 := hev.out; simp only [bne_eq_false_iff_eq]; omega
  have hBz := ((Bx.new w [.int .i64 0, .int .i64 0, .int .i64 0, .int .i64 0, .int .i64 0, .slice none 0 0] 99).alloc (.cells ([.int .i64 p0, .int .i64 p1, .int .i64 p2, .int .i64 p3, .int .i64 p4, .slice none 0 0] : List Value).toArray 99)).drew
  have hFz := ((Fx.new w [.int .i64 0, .int .i64 0, .int .i64 0, .int .i64 0, .int .i64 0, .slice none 0 0] 99).alloc (.cells ([.int .i64 p0, .int .i64 p1, .int .i64 p2, .int .i64 p3, .int .i64 p4, .slice none 0 0] : List Value).toArray 99)).drew
  have hBx := (Bx.new (w.alloc (.cells ([.int .i64 0, .int .i64 0, .int .i64 0, .int .i64 0, .int .i64 0, .slice none 0 0] : List Value).toArray 99)) [.int .i64 p0, .int .i64 p1, .int .i64 p2, .int .i64 p3, .int .i64 p4, .slice none 0 0] 99).drew
  have hFx := (Fx.new (w.alloc (.cells ([.int .i64 0, .int .i64 0, .int .i64 0, .int .i64 0, .int .i64 0, .slice none 0 0] : List Value).toArray 99)) [.int .i64 p0, .int .i64 p1, .int .i64 p2, .int .i64 p3, .int .i64 p4, .slice none 0 0] 99).drew
  rw [World.size_alloc] at hBx hFx
  have HBz := Lib.hid hBz
  have HFz := Lib.hid hFz
  have HBx := Lib.hid hBx
  have HFx := Lib.hid hFx
  clear hBz hFz hBx hFx hc hh2 hr0
  go_enter Try.func81, Try.ntmps81
  go_wp2_with fail
  refine restS_begin (fun W => Below w.heap.size w W) (by kernel_rfl) (by (repeat (first | with_reducible exact Below.refl _ _ | ((with_reducible refine bl_alloc ?_ ?_); (focus (first | (simp; done) | (simp; omega) | omega))) | ((with_reducible refine bl_set ?_ ?_); (focus (first | (simp; done) | (simp; omega) | omega))) | ((with_reducible refine bl_later ?_ ?_); (focus (first | (simp; done) | (simp; omega) | omega))) | with_reducible refine bl_drew ?_ | with_reducible refine bl_drewN ?_ | ((with_reducible refine bl_step (by assumption) ?_ ?_); (focus (first | (simp; done) | (simp; omega) | omega)))))) ?_
  refine restS_take (v := ?_) 0 rfl (by kernel_rfl) (by kernel_rfl) (by kernel_rfl) (fun _ _ _ h => h) (by rfl) ?_ ?_
  rotate_left
  · intro w9 h9; try dsimp only at h9
    go_split_ands
    go_simp; try with_reducible rfl
  try simp only [Act.put, List.setIfInBounds_toArray, List.set_cons_zero, List.set_cons_succ]
  refine restS_take (v := ?_) 1 rfl (by kernel_rfl) (by kernel_rfl) (by kernel_rfl) (fun _ _ _ h => h) (by rfl) ?_ ?_
  rotate_left
  · intro w9 h9; try dsimp only at h9
    go_split_ands
    go_simp; try with_reducible rfl
  try simp only [Act.put, List.setIfInBounds_toArray, List.set_cons_zero, List.set_cons_succ]
  refine restS_take (v := ?_) 2 rfl (by kernel_rfl) (by kernel_rfl) (by kernel_rfl) (fun _ _ _ h => h) (by rfl) ?_ ?_
  rotate_left
  · intro w9 h9; try dsimp only at h9
    obtain ⟨x9, rfl⟩ := later_of h9
    go_simp; try with_reducible rfl
  try simp only [Act.put, List.setIfInBounds_toArray, List.set_cons_zero, List.set_cons_succ]
  refine restS_take (v := ?_) 3 rfl (by kernel_rfl) (by kernel_rfl) (by kernel_rfl) (fun _ _ _ h => h) (by rfl) ?_ ?_
  rotate_left
  · intro w9 h9; try dsimp only at h9
    go_split_ands
    go_simp; try with_reducible rfl
  try simp only [Act.put, List.setIfInBounds_toArray, List.set_cons_zero, List.set_cons_succ]
  refine restS_take (v := ?_) 4 rfl (by kernel_rfl) (by kernel_rfl) (by kernel_rfl) (fun _ _ _ h => h) (by rfl) ?_ ?_
  rotate_left
  · intro w9 h9; try dsimp only at h9
    go_split_ands
    go_simp; try with_reducible rfl
  try simp only [Act.put, List.setIfInBounds_toArray, List.set_cons_zero, List.set_cons_succ]
  refine restS_take (v := ?_) 5 rfl (by kernel_rfl) (by kernel_rfl) (by kernel_rfl) (fun _ _ _ h => h) (by rfl) ?_ ?_
  rotate_left
  · intro w9 h9; try dsimp only at h9
    obtain ⟨x9, rfl⟩ := later_of h9
    go_simp; try with_reducible rfl
  try simp only [Act.put, List.setIfInBounds_toArray, List.set_cons_zero, List.set_cons_succ]
  refine restS_take (v := ?_) 6 rfl (by kernel_rfl) (by kernel_rfl) (by kernel_rfl) (fun _ _ _ h => h) (by rfl) ?_ ?_
  rotate_left
  · intro w9 h9; try dsimp only at h9
    go_split_ands
    go_simp; try with_reducible rfl
  try simp only [Act.put, List.setIfInBounds_toArray, List.set_cons_zero, List.set_cons_succ]
  refine restS_take (v := ?_) 7 rfl (by kernel_rfl) (by kernel_rfl) (by kernel_rfl) (fun _ _ _ h => h) (by rfl) ?_ ?_
  rotate_left
  · intro w9 h9; try dsimp only at h9
    go_split_ands
    go_simp; try with_reducible rfl
  try simp only [Act.put, List.setIfInBounds_toArray, List.set_cons_zero, List.set_cons_succ]
  refine restS_take (v := ?_) 8 rfl (by kernel_rfl) (by kernel_rfl) (by kernel_rfl) (fun _ _ _ h => h) (by rfl) ?_ ?_
  rotate_left
  · intro w9 h9; try dsimp only at h9
    obtain ⟨x9, rfl⟩ := later_of h9
    go_simp; try with_reducible rfl
  try simp only [Act.put, List.setIfInBounds_toArray, List.set_cons_zero, List.set_cons_succ]
  refine restS_take (v := ?_) 9 rfl (by kernel_rfl) (by kernel_rfl) (by kernel_rfl) (fun _ _ _ h => h) (by rfl) ?_ ?_
  rotate_left
  · intro w9 h9; try dsimp only at h9
    go_split_ands
    go_simp; try with_reducible rfl
  try simp only [Act.put, List.setIfInBounds_toArray, List.set_cons_zero, List.set_cons_succ]
  refine restS_take (v := ?_) 10 rfl (by kernel_rfl) (by kernel_rfl) (by kernel_rfl) (fun _ _ _ h => h) (by rfl) ?_ ?_
  rotate_left
  · intro w9 h9; try dsimp only at h9
    go_split_ands
    go_simp; try with_reducible rfl
  try simp only [Act.put, List.setIfInBounds_toArray, List.set_cons_zero, List.set_cons_succ]
  refine restS_take (v := ?_) 11 rfl (by kernel_rfl) (by kernel_rfl) (by kernel_rfl) (fun _ _ _ h => h) (by rfl) ?_ ?_
  rotate_left
  · intro w9 h9; try dsimp only at h9
    obtain ⟨x9, rfl⟩ := later_of h9
    go_simp; try with_reducible rfl
  try simp only [Act.put, List.setIfInBounds_toArray, List.set_cons_zero, List.set_cons_succ]
  refine restS_take (v := ?_) 12 rfl (by kernel_rfl) (by kernel_rfl) (by kernel_rfl) (fun _ _ _ h => h) (by rfl) ?_ ?_
  rotate_left
  · intro w9 h9; try dsimp only at h9
    go_split_ands
    go_simp; try with_reducible rfl
  try simp only [Act.put, List.setIfInBounds_toArray, List.set_cons_zero, List.set_cons_succ]
  refine restS_take (v := ?_) 13 rfl (by kernel_rfl) (by kernel_rfl) (by kernel_rfl) (fun _ _ _ h => h) (by rfl) ?_ ?_
  rotate_left
  · intro w9 h9; try dsimp only at h9
    go_split_ands
    go_simp; try with_reducible rfl
  try simp only [Act.put, List.setIfInBounds_toArray, List.set_cons_zero, List.set_cons_succ]
  refine restS_take (v := ?_) 14 rfl (by kernel_rfl) (by kernel_rfl) (by kernel_rfl) (fun _ _ _ h => h) (by rfl) ?_ ?_
  rotate_left
  · intro w9 h9; try dsimp only at h9
    obtain ⟨x9, rfl⟩ := later_of h9
    go_simp; try with_reducible rfl
  try simp only [Act.put, List.setIfInBounds_toArray, List.set_cons_zero, List.set_cons_succ]
  refine restS_take (v := ?_) 15 rfl (by kernel_rfl) (by kernel_rfl) (by kernel_rfl) (fun _ _ _ h => h) (by rfl) ?_ ?_
  rotate_left
  · intro w9 h9; try dsimp only at h9
    go_split_ands
    go_simp; try with_reducible rfl
  try simp only [Act.put, List.setIfInBounds_toArray, List.set_cons_zero, List.set_cons_succ]
  refine restS_alone 16 rfl (by kernel_rfl) (by rfl) (fun hS K hK => ?_)
  go_wp2_with fail
  refine hK.out _ _ (by (repeat (first | with_reducible exact Below.refl _ _ | ((with_reducible refine bl_alloc ?_ ?_); (focus (first | (simp; done) | (simp; omega) | omega))) | ((with_reducible refine bl_set ?_ ?_); (focus (first | (simp; done) | (simp; omega) | omega))) | ((with_reducible refine bl_later ?_ ?_); (focus (first | (simp; done) | (simp; omega) | omega))) | with_reducible refine bl_drew ?_ | with_reducible refine bl_drewN ?_ | ((with_reducible refine bl_step (by assumption) ?_ ?_); (focus (first | (simp; done) | (simp; omega) | omega)))))) ?_
  try simp only [Act.put, List.setIfInBounds_toArray, List.set_cons_zero, List.set_cons_succ]
  clear hK K hS
  refine restS_alone 17 rfl (by kernel_rfl) (by rfl) (fun hS K hK => ?_)
  go_wp2_with fail
  refine hK.out _ _ (by (repeat (first | with_reducible exact Below.refl _ _ | ((with_reducible refine bl_alloc ?_ ?_); (focus (first | (simp; done) | (simp; omega) | omega))) | ((with_reducible refine bl_set ?_ ?_); (focus (first | (simp; done) | (simp; omega) | omega))) | ((with_reducible refine bl_later ?_ ?_); (focus (first | (simp; done) | (simp; omega) | omega))) | with_reducible refine bl_drew ?_ | with_reducible refine bl_drewN ?_ | ((with_reducible refine bl_step (by assumption) ?_ ?_); (focus (first | (simp; done) | (simp; omega) | omega)))))) ?_
  try simp only [Act.put, List.setIfInBounds_toArray, List.set_cons_zero, List.set_cons_succ]
  clear hK K hS
  refine restS_done (by kernel_rfl) (fun hS => ?_)
  go_wp2_with fail
  go_loopw [5] (fun v wr => ∃ (n : Nat) (q : List Int) (D : List (Int × Int)) (ao' : Option Addr) (cap' : Nat), v = .int .i64 n ∧ Hid (n % 2 = 0) ∧ Hid (l.length = n + q.length) ∧ Hid (∀ j x, q[j]? = some x → w.cell? ⟨b0, off + n + j, none⟩ = some (.int .i64 x)) ∧ Hid (duesOf r = D ++ duesOf q) ∧ Hid (D.length * 2 + q.length ≤ 1000) ∧ Hid (∀ x ∈ q, inI64 x) ∧ Bx wr (w.heap.size + 1) [.int .i64 p0, .int .i64 p1, .int .i64 p2, .int .i64 p3, .int .i64 p4, .slice ao' D.length cap'] ∧ Fx wr (w.heap.size + 1) ∧ Bx wr w.heap.size [.int .i64 0, .int .i64 0, .int .i64 0, .int .i64 0, .int .i64 0, .slice none 0 0] ∧ Fx wr w.heap.size ∧ OwnA dueE wr (w.heap.size + 1 + 1) 113 (.slice ao' D.length cap') D ∧ Below w.heap.size w wr)
    (fun v _ => l.length - (intOf v).toNat)
  case atStart => exact ⟨6, r, [], none, 0, rfl, rfl, hlen.out, Hqs.out, rfl, (by show _ ≤ 1000; simp; omega), Hri.out, HBx.out, HFx.out, HBz.out, HFz.out, ownA_nil _ _ _ _, hS⟩
  case round =>
    obtain ⟨n, q, D, ao', cap', rfl, Hpar, Hn, Hq, Hd, HdL, Hqi, hBx, hFx, hBz, hFz, hOw, hbel⟩ := hrel
    match q, Hn, Hq, Hd, HdL, Hqi with
    | x0 :: x1 :: q, Hn, Hq, Hd, HdL, Hqi =>
      have hn2 : n + 2 ≤ l.length := by have h7 := Hn.out; simp at h7; omega
      have k6 := Hq.out 0 x0 rfl
      have k7 := Hq.out 1 x1 rfl
      rw [Nat.add_zero] at k6
      have k8 : w.cell? ⟨b0, off + (n + 1), none⟩ = some (.int .i64 x1) := k7
      have hlt : n < l.length := by omega
      have hlt1 : n + 1 < l.length := by omega
      have hp6 : (n : Int) < (l.length : Int) := by omega
      have hp7 : (n : Int) + 1 < (l.length : Int) := by omega
      have hx0 := Hqi.out x0 (by simp)
      have hx1 := Hqi.out x1 (by simp)
      have hDl : D.length ≤ 1000 := by have h7 := HdL.out; omega
      go_wp2_with fail
      refine restS_begin (fun W => Below w.heap.size w W) (by kernel_rfl) hbel.drew ?_
      have hBw := hBx
      replace hBx := hBx.drew
      replace hFx := hFx.drew
      replace hBz := hBz.drew
      replace hFz := hFz.drew
      replace hOw := hOw.below (Below.refl _ _).drew
      have hw1 : IntKind.i64.wrap ((n : Int) + 1) = (n : Int) + 1 := IntWalk.i64_in _ (by omega)
      have hw2 : (0 : Int) ≤ (n : Int) + 1 := by omega
      have hw3 : ((n : Int) + 1).toNat = n + 1 := by omega
      refine restS_take (v := ?_) 0 rfl (by kernel_rfl) (by kernel_rfl) (by kernel_rfl) (fun _ _ _ h => h) (by rfl) ?_ ?_
      rotate_left
      · intro w9 h9; try dsimp only at h9
        go_split_ands
        go_simp; try with_reducible rfl
      try simp only [Act.put, List.setIfInBounds_toArray, List.set_cons_zero, List.set_cons_succ]
      refine restS_take (v := ?_) 2 rfl (by kernel_rfl) (by kernel_rfl) (by kernel_rfl) (fun _ _ _ h => h) (by rfl) ?_ ?_
      rotate_left
      · intro w9 h9; try dsimp only at h9
        go_split_ands
        go_simp; try with_reducible rfl
      try simp only [Act.put, List.setIfInBounds_toArray, List.set_cons_zero, List.set_cons_succ]
      refine restS_take (v := ?_) 3 rfl (by kernel_rfl) (by kernel_rfl) (by kernel_rfl) (fun _ _ _ h => h) (by rfl) ?_ ?_
      rotate_left
      · intro w9 h9; try dsimp only at h9
        go_split_ands
        go_simp; try with_reducible rfl
      try simp only [Act.put, List.setIfInBounds_toArray, List.set_cons_zero, List.set_cons_succ]
      refine restS_take (v := ?_) 4 rfl (by kernel_rfl) (by kernel_rfl) (by kernel_rfl) (fun _ _ _ h => h) (by rfl) ?_ ?_
      rotate_left
      · intro w9 h9; try dsimp only at h9
        go_split_ands
        go_simp; try with_reducible rfl
      try simp only [Act.put, List.setIfInBounds_toArray, List.set_cons_zero, List.set_cons_succ]
      refine restS_take (v := ?_) 5 rfl (by kernel_rfl) (by kernel_rfl) (by kernel_rfl) (fun _ _ _ h => h) (by rfl) ?_ ?_
      rotate_left
      · intro w9 h9; try dsimp only at h9
        obtain ⟨x9, rfl⟩ := later_of h9
        go_simp; try with_reducible rfl
      try simp only [Act.put, List.setIfInBounds_toArray, List.set_cons_zero, List.set_cons_succ]
      refine restS_take (v := ?_) 6 rfl (by kernel_rfl) (by kernel_rfl) (by kernel_rfl) (fun _ _ _ h => h) (by rfl) ?_ ?_
      rotate_left
      · intro w9 h9; try dsimp only at h9
        go_split_ands
        go_simp; try with_reducible rfl
      try simp only [Act.put, List.setIfInBounds_toArray, List.set_cons_zero, List.set_cons_succ]
      refine restS_take (v := ?_) 7 rfl (by kernel_rfl) (by kernel_rfl) (by kernel_rfl) (fun _ _ _ h => h) (by rfl) ?_ ?_
      rotate_left
      · intro w9 h9; try dsimp only at h9
        go_split_ands
        go_simp; try with_reducible rfl
      try simp only [Act.put, List.setIfInBounds_toArray, List.set_cons_zero, List.set_cons_succ]
      refine restS_take (v := ?_) 8 rfl (by kernel_rfl) (by kernel_rfl) (by kernel_rfl) (fun _ _ _ h => h) (by rfl) ?_ ?_
      rotate_left
      · intro w9 h9; try dsimp only at h9
        go_split_ands
        go_simp; try with_reducible rfl
      try simp only [Act.put, List.setIfInBounds_toArray, List.set_cons_zero, List.set_cons_succ]
      refine restS_take (v := ?_) 9 rfl (by kernel_rfl) (by kernel_rfl) (by kernel_rfl) (fun _ _ _ h => h) (by rfl) ?_ ?_
      rotate_left
      · intro w9 h9; try dsimp only at h9
        go_split_ands
        go_simp; try with_reducible rfl
      try simp only [Act.put, List.setIfInBounds_toArray, List.set_cons_zero, List.set_cons_succ]
      refine restS_take (v := ?_) 10 rfl (by kernel_rfl) (by kernel_rfl) (by kernel_rfl) (fun _ _ _ h => h) (by rfl) ?_ ?_
      rotate_left
      · intro w9 h9; try dsimp only at h9
        obtain ⟨x9, rfl⟩ := later_of h9
        go_simp; try with_reducible rfl
      try simp only [Act.put, List.setIfInBounds_toArray, List.set_cons_zero, List.set_cons_succ]
      refine restS_take (v := ?_) 11 rfl (by kernel_rfl) (by kernel_rfl) (by kernel_rfl) (fun _ _ _ h => h) (by rfl) ?_ ?_
      rotate_left
      · intro w9 h9; try dsimp only at h9
        go_split_ands
        go_simp; try with_reducible rfl
      try simp only [Act.put, List.setIfInBounds_toArray, List.set_cons_zero, List.set_cons_succ]
      refine restS_two 1 12 rfl rfl (by kernel_rfl) (by rfl) (by rfl) (fun hS K hK => ?_) (fun hS K hK => ?_)
      · skip
        have q0 := hBw.2
        have hBl := hBw.1
        go_wp2_with fail
        clear q0
        refine hK.out _ _ hS ?_
        try simp only [Act.put, List.setIfInBounds_toArray, List.set_cons_zero, List.set_cons_succ]
        clear hK K hS
        refine restS_alone 12 rfl (by kernel_rfl) (by rfl) (fun hS K hK => ?_)
        go_wp2_with fail
        have hL := lit_due hS x0 x1 hx0 hx1
        simp only [World.size_drew] at hL
        replace hBx := hBx.alloc (.cells ([.int .i64 x0, .int .i64 x1] : List Value).toArray 113)
        replace hFx := hFx.alloc (.cells ([.int .i64 x0, .int .i64 x1] : List Value).toArray 113)
        replace hBz := hBz.alloc (.cells ([.int .i64 x0, .int .i64 x1] : List Value).toArray 113)
        replace hFz := hFz.alloc (.cells ([.int .i64 x0, .int .i64 x1] : List Value).toArray 113)
        replace hOw := hOw.below ((Below.refl _ _).alloc (Nat.le_refl _) (.cells ([.int .i64 x0, .int .i64 x1] : List Value).toArray 113))
        have hS2 := hS.alloc hS.size (.cells ([.int .i64 x0, .int .i64 x1] : List Value).toArray 113)
        refine hK.out _ _ hS2 ?_
        try simp only [Act.put, List.setIfInBounds_toArray, List.set_cons_zero, List.set_cons_succ]
        clear hK K hS
        clear hS2
        refine restS_alone 13 rfl (by kernel_rfl) (by rfl) (fun hS K hK => ?_)
        have hlt2 := hOw.2.2.lt
        refine wpo_append_rows (E := dueE) _ _ _ (by rfl) (w.heap.size + 1 + 1) 113 j0 (.agg #[.int .i64 0, .int .i64 0]) 16 Try.underlying97 hj hj0 hj1 hj2 rfl (by omega) due_one _ _ _ _ D [(x0, x1)] (by rfl) hOw (by rfl) hL.read (by simp only [List.length_cons, List.length_nil]; omega) (by have h7 := hBx.1; simp only [World.size_alloc, World.size_drew] at h7 ⊢; omega) (fun a5 c5 w5 ho5 hg5 => ?_)
        replace hBx := hBx.grown hg5 (fun e => by have h7 := (hlt2 _ e).1; omega)
        replace hFx := hFx.grown hg5 (fun e => by have h7 := (hlt2 _ e).1; omega)
        replace hBz := hBz.grown hg5 (fun e => by have h7 := (hlt2 _ e).1; omega)
        replace hFz := hFz.grown hg5 (fun e => by have h7 := (hlt2 _ e).1; omega)
        have hS2 := bl_grown hg5 hS.size (fun k hk => Nat.le_trans (by omega) (hlt2 k hk).1) hS
        clear hlt2 hOw hL
        refine hK.out _ _ hS2 ?_
        try simp only [Act.put, List.setIfInBounds_toArray, List.set_cons_zero, List.set_cons_succ]
        clear hK K hS
        clear hS2 hg5
        refine restS_take (v := ?_) 14 rfl (by kernel_rfl) (by kernel_rfl) (by kernel_rfl) (fun _ _ _ h => h) (by rfl) ?_ ?_
        rotate_left
        · intro w9 h9; try dsimp only at h9
          go_split_ands
          go_simp; try with_reducible rfl
        try simp only [Act.put, List.setIfInBounds_toArray, List.set_cons_zero, List.set_cons_succ]
        refine restS_alone 15 rfl (by kernel_rfl) (by rfl) (fun hS K hK => ?_)
        have q0 := hBx.2
        have q1 := hFx.2
        go_wp2_with fail
        clear q0 q1
        replace hBx := hBx.set 5 (.slice a5 (D.length + 1) c5) (by simp)
        replace hFx := hFx.set ⟨w.heap.size + 1, 5, none⟩ (.slice a5 (D.length + 1) c5)
        replace hBz := hBz.setOther ⟨w.heap.size + 1, 5, none⟩ (.slice a5 (D.length + 1) c5) (by simp)
        replace hFz := hFz.set ⟨w.heap.size + 1, 5, none⟩ (.slice a5 (D.length + 1) c5)
        replace ho5 := ho5.set (a := ⟨w.heap.size + 1, 5, none⟩) (u := .slice a5 (D.length + 1) c5) (by simp)
        have hS2 : Below w.heap.size w _ := hS.setCell (p := ⟨w.heap.size + 1, 5, none⟩) (by simp) (.slice a5 (D.length + 1) c5)
        refine hK.out _ _ hS2 ?_
        try simp only [Act.put, List.setIfInBounds_toArray, List.set_cons_zero, List.set_cons_succ]
        clear hK K hS
        clear hS2
        refine restS_done (by kernel_rfl) (fun hS => ?_)
        simp only [List.set_cons_succ, List.set_cons_zero] at hBx
        clear hw1 hw2 hw3
        go_wp2_with fail
        go_roundw
        case rel => exact ⟨n + 2, q, D ++ [(x0, x1)], a5, c5, by go_num, (by have h7 := Hpar.out; show _ % 2 = 0; omega), (by show _ = _; rw [Hn.out]; simp only [List.length_cons]; omega), (fun j x hj => by have h7 := Hq.out (j + 2) x (by simpa using hj); rwa [show off + n + (j + 2) = off + (n + 2) + j by omega] at h7), (by show duesOf r = _; rw [Hd.out]; simp [duesOf]), (by show _ ≤ 1000; have h7 := HdL.out; simp only [List.length_append, List.length_cons, List.length_nil] at h7 ⊢; omega), (fun x hx => Hqi.out x (by simp [hx])), (by rw [List.length_append]; exact hBx), hFx, hBz, hFz, ho5, hS⟩
        case measure => simp [intOf]; omega
      · skip
        go_wp2_with fail
        have hL := lit_due hS x0 x1 hx0 hx1
        simp only [World.size_drew] at hL
        replace hBx := hBx.alloc (.cells ([.int .i64 x0, .int .i64 x1] : List Value).toArray 113)
        replace hFx := hFx.alloc (.cells ([.int .i64 x0, .int .i64 x1] : List Value).toArray 113)
        replace hBz := hBz.alloc (.cells ([.int .i64 x0, .int .i64 x1] : List Value).toArray 113)
        replace hFz := hFz.alloc (.cells ([.int .i64 x0, .int .i64 x1] : List Value).toArray 113)
        replace hOw := hOw.below ((Below.refl _ _).alloc (Nat.le_refl _) (.cells ([.int .i64 x0, .int .i64 x1] : List Value).toArray 113))
        have hS2 := hS.alloc hS.size (.cells ([.int .i64 x0, .int .i64 x1] : List Value).toArray 113)
        refine hK.out _ _ hS2 ?_
        try simp only [Act.put, List.setIfInBounds_toArray, List.set_cons_zero, List.set_cons_succ]
        clear hK K hS
        clear hS2
        refine restS_alone 1 rfl (by kernel_rfl) (by rfl) (fun hS K hK => ?_)
        have q0 := hBw.2
        have hBl := hBw.1
        go_wp2_with fail
        clear q0
        refine hK.out _ _ hS ?_
        try simp only [Act.put, List.setIfInBounds_toArray, List.set_cons_zero, List.set_cons_succ]
        clear hK K hS
        refine restS_alone 13 rfl (by kernel_rfl) (by rfl) (fun hS K hK => ?_)
        have hlt2 := hOw.2.2.lt
        refine wpo_append_rows (E := dueE) _ _ _ (by rfl) (w.heap.size + 1 + 1) 113 j0 (.agg #[.int .i64 0, .int .i64 0]) 16 Try.underlying97 hj hj0 hj1 hj2 rfl (by omega) due_one _ _ _ _ D [(x0, x1)] (by rfl) hOw (by rfl) hL.read (by simp only [List.length_cons, List.length_nil]; omega) (by have h7 := hBx.1; simp only [World.size_alloc, World.size_drew] at h7 ⊢; omega) (fun a5 c5 w5 ho5 hg5 => ?_)
        replace hBx := hBx.grown hg5 (fun e => by have h7 := (hlt2 _ e).1; omega)
        replace hFx := hFx.grown hg5 (fun e => by have h7 := (hlt2 _ e).1; omega)
        replace hBz := hBz.grown hg5 (fun e => by have h7 := (hlt2 _ e).1; omega)
        replace hFz := hFz.grown hg5 (fun e => by have h7 := (hlt2 _ e).1; omega)
        have hS2 := bl_grown hg5 hS.size (fun k hk => Nat.le_trans (by omega) (hlt2 k hk).1) hS
        clear hlt2 hOw hL
        refine hK.out _ _ hS2 ?_
        try simp only [Act.put, List.setIfInBounds_toArray, List.set_cons_zero, List.set_cons_succ]
        clear hK K hS
        clear hS2 hg5
        refine restS_take (v := ?_) 14 rfl (by kernel_rfl) (by kernel_rfl) (by kernel_rfl) (fun _ _ _ h => h) (by rfl) ?_ ?_
        rotate_left
        · intro w9 h9; try dsimp only at h9
          go_split_ands
          go_simp; try with_reducible rfl
        try simp only [Act.put, List.setIfInBounds_toArray, List.set_cons_zero, List.set_cons_succ]
        refine restS_alone 15 rfl (by kernel_rfl) (by rfl) (fun hS K hK => ?_)
        have q0 := hBx.2
        have q1 := hFx.2
        go_wp2_with fail
        clear q0 q1
        replace hBx := hBx.set 5 (.slice a5 (D.length + 1) c5) (by simp)
        replace hFx := hFx.set ⟨w.heap.size + 1, 5, none⟩ (.slice a5 (D.length + 1) c5)
        replace hBz := hBz.setOther ⟨w.heap.size + 1, 5, none⟩ (.slice a5 (D.length + 1) c5) (by simp)
        replace hFz := hFz.set ⟨w.heap.size + 1, 5, none⟩ (.slice a5 (D.length + 1) c5)
        replace ho5 := ho5.set (a := ⟨w.heap.size + 1, 5, none⟩) (u := .slice a5 (D.length + 1) c5) (by simp)
        have hS2 : Below w.heap.size w _ := hS.setCell (p := ⟨w.heap.size + 1, 5, none⟩) (by simp) (.slice a5 (D.length + 1) c5)
        refine hK.out _ _ hS2 ?_
        try simp only [Act.put, List.setIfInBounds_toArray, List.set_cons_zero, List.set_cons_succ]
        clear hK K hS
        clear hS2
        refine restS_done (by kernel_rfl) (fun hS => ?_)
        simp only [List.set_cons_succ, List.set_cons_zero] at hBx
        clear hw1 hw2 hw3
        go_wp2_with fail
        go_roundw
        case rel => exact ⟨n + 2, q, D ++ [(x0, x1)], a5, c5, by go_num, (by have h7 := Hpar.out; show _ % 2 = 0; omega), (by show _ = _; rw [Hn.out]; simp only [List.length_cons]; omega), (fun j x hj => by have h7 := Hq.out (j + 2) x (by simpa using hj); rwa [show off + n + (j + 2) = off + (n + 2) + j by omega] at h7), (by show duesOf r = _; rw [Hd.out]; simp [duesOf]), (by show _ ≤ 1000; have h7 := HdL.out; simp only [List.length_append, List.length_cons, List.length_nil] at h7 ⊢; omega), (fun x hx => Hqi.out x (by simp [hx])), (by rw [List.length_append]; exact hBx), hFx, hBz, hFz, ho5, hS⟩
        case measure => simp [intOf]; omega
    | [x0], Hn, Hq, Hd, HdL, Hqi => exact absurd (show False from by have h7 := Hn.out; have h8 := Hpar.out; have h9 := hev.out; simp only [List.length_cons, List.length_nil] at h7; omega) (fun h => h)
    | [], Hn, Hq, Hd, HdL, Hqi =>
      have e : D = duesOf r := by rw [Hd.out]; simp [duesOf]
      subst e
      have hd : decide (n < l.length) = false := by have h7 := Hn.out; simp only [List.length_nil] at h7; simp; omega
      have hr7 : r.length % 2 = 0 := by have h7 := hev.out; have h8 := hlen.out; omega
      cases hE : jobsOk p0 p1 p2 p3 p4 (duesOf r)
      · have hj : isJobs l = false := by rw [Hl.out]; simp [isJobs, hE]
        have q0 := hBx.2
        go_wp2_with fail
        clear q0
        refine (c_spec_JobsOk2 _ _ _ _ _ _ _ _ _ hOw.read).mono ?_
        rintro e w1 ⟨rfl, hb1⟩
        replace hBx := hBx.below hb1
        replace hBz := hBz.below hb1
        replace hFz := hFz.below hb1
        replace hOw := hOw.below hb1
        replace hbel := bl_step hb1 hbel.size hbel
        clear hb1
        have q0 := hBx.2
        have q1 := hBz.2
        have q2 := hFz.2
        go_wp2_with fail
        refine bodyPost_ret (v := .tuple #[.agg #[.int .i64 0, .int .i64 0, .int .i64 0, .int .i64 0, .int .i64 0, .slice none 0 0], .bool false]) (by simp [results, Try.results81, go_sem, *]) rfl (retRowJobs_no hj ?_)
        (repeat (first | with_reducible exact Below.refl _ _ | ((with_reducible refine bl_alloc ?_ ?_); (focus (first | (simp; done) | (simp; omega) | omega))) | ((with_reducible refine bl_set ?_ ?_); (focus (first | (simp; done) | (simp; omega) | omega))) | ((with_reducible refine bl_later ?_ ?_); (focus (first | (simp; done) | (simp; omega) | omega))) | with_reducible refine bl_drew ?_ | with_reducible refine bl_drewN ?_ | ((with_reducible refine bl_step (by assumption) ?_ ?_); (focus (first | (simp; done) | (simp; omega) | omega)))))
      · have hj : isJobs (9 :: p0 :: p1 :: p2 :: p3 :: p4 :: r) = true := by simp [isJobs, hE, hlr, hr7]
        have q0 := hBx.2
        go_wp2_with fail
        clear q0
        refine (c_spec_JobsOk2 _ _ _ _ _ _ _ _ _ hOw.read).mono ?_
        rintro e w1 ⟨rfl, hb1⟩
        replace hBx := hBx.below hb1
        replace hBz := hBz.below hb1
        replace hFz := hFz.below hb1
        replace hOw := hOw.below hb1
        replace hbel := bl_step hb1 hbel.size hbel
        clear hb1
        have q0 := hBx.2
        have q1 := hBz.2
        have q2 := hFz.2
        go_wp2_with fail
        refine bodyPost_ret (v := .tuple #[.agg #[.int .i64 p0, .int .i64 p1, .int .i64 p2, .int .i64 p3, .int .i64 p4, .slice ao' (duesOf r).length cap'], .bool true]) (by simp [results, Try.results81, go_sem, *]) rfl ?_
        rw [Hl.out]
        refine retRowJobs_yes hj ?_ (by (repeat (first | with_reducible exact Below.refl _ _ | ((with_reducible refine bl_alloc ?_ ?_); (focus (first | (simp; done) | (simp; omega) | omega))) | ((with_reducible refine bl_set ?_ ?_); (focus (first | (simp; done) | (simp; omega) | omega))) | ((with_reducible refine bl_later ?_ ?_); (focus (first | (simp; done) | (simp; omega) | omega))) | with_reducible refine bl_drew ?_ | with_reducible refine bl_drewN ?_ | ((with_reducible refine bl_step (by assumption) ?_ ?_); (focus (first | (simp; done) | (simp; omega) | omega))))))
        refine OwnA.weak (lo := w.heap.size + 1 + 1) (by omega) ?_
        repeat (first | ((with_reducible refine OwnA.set ?_ ?_); (focus (first | (simp; done) | (simp; omega) | omega))))
        exact hOw

end Go.Proofs.Ytpfkfppooeikeaa
