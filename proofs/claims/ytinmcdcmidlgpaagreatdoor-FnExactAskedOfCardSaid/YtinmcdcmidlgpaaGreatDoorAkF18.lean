/- Walks of functions of the program, printed by a program of the prover. -/
import Derived.Test.YtinmcdcmidlgpaaGreatDoorAkF15
namespace Go.Proofs.YtinmcdcmidlgpaaGreatDoor
open Go.ChangeShapes Go.WideShapes Go.ChangeAt Go.RowKit
set_option linter.unusedVariables false
set_option linter.unusedSimpArgs false
set_option maxHeartbeats 1000000
set_option maxRecDepth 100000
attribute [local irreducible] EvL Ev EvE Quiet Eff Pure RDk RDb RDo
def mkN (d : Disk) : Nat := sumN List.length d.kept + sumN lenS d.wait
def smD (d : Disk) : Prop := d.kept.length ≤ 1048576 ∧ d.wait.length ≤ 1048576 ∧ mkN d ≤ 4294967296
def smT (t : Two) : Prop := smD t.a ∧ smD t.b
theorem m_rows (ty : Nat) (K : List (List Int)) (q : Int) (h : 0 ≤ q ∧ q + (sumN List.length K : Nat) ≤ 1099511627776) (hl : K.length ≤ 1048576) : Marks Tryz.prog 216 (false, [.s ty 1 (K.map fun r => [ints r])]) (false, [.s ty 1 (mkRows q K)]) q (q + (sumN List.length K : Nat)) := by
 refine marks_intro (N := 19) Tryz.func216 rfl rfl rfl rfl (fun w v F => ?_)
 refine sq (rg (xs rfl rfl (nl (et (sq (sq (rg (xs rfl rfl (nl (et (ev_blk (ev_loop (fun i : Nat × Int => (⟨[(5, iV i.1), (1, iV i.2), (0, .p false [.rt 900])], [], [(900, ty, 1, mixM (fun r => [ints r]) (gR q K) K i.1)], []⟩ : St)) (fun i => i.1 ≤ K.length ∧ i.2 = q + (sumN List.length (K.take i.1) : Nat)) (fun i => K.length - i.1) (0, q) [] (⟨by simp, by simp [sumN]⟩) ⟨trf, trf, ⟨⟨_, rfl, by exact mixM_zero _ _ _⟩, trivial⟩, tre, rfl⟩ ?_))))))))))))
 intro i hp
 obtain ⟨k, z⟩ := i
 have hp : k ≤ K.length ∧ z = q + (sumN List.length (K.take k) : Nat) := hp
 obtain ⟨p0, p1⟩ := hp
 show Ev _ _ _ _ (⟨[(5, iV k), (1, iV z), (0, .p false [.rt 900])], [], [(900, ty, 1, mixM (fun r => [ints r]) (gR q K) K k)], []⟩ : St)
 have hM : (mixM (fun r => [ints r]) (gR q K) K k).length = K.length := mixM_len p0
 refine sq (sq (rg (xm rfl rfl (xm rfl rfl (xo (q_len_rt ttOk rfl rfl rfl) rfl (xb ttOk rfl rfl (nl (et (ev_cond rfl (fun h1 => ?_) (fun h1 => ?_))))))))))
 ·have d1 := of_decide_eq_true h1
  refine ev_skip (et (sq (ev_blk ?_)))
  have s1 := sumN_next (f := List.length) (l := K) (k := k) om
  have s2 := sumN_le List.length K (k + 1)
  refine rg (xm rfl rfl (xm rfl rfl (xo (q_ix_rt (m := k) ttOk rfl rfl rfl rfl rfl rfl (by first | (rw [hM]; omega) | (rw [List.length_set, hM]; omega))) rfl (xo (q_load_pr ttOk rfl rfl rfl rfl (mixM_at om) rfl rfl) rfl (xm rfl rfl (evl_marks (cf rfl) rfl rfl rfl rfl (mixM_at om) rfl (fun ty' => m_ints ty' (K[k]'om) z om) (mixM_set om (by unfold gR; rw [p1, getD_len om]; rfl)) rfl rfl rfl (xs rfl rfl (nl (eb (et (rg (xm rfl rfl (xa rfl rfl rfl om rfl (xs rfl rfl (nl (eve_round (k + 1, z + (K[k]'om).length) [] ?hp ⟨trf, trf, ⟨⟨_, rfl, by rfl⟩, trivial⟩, tre, rfl⟩))))))))))))))))
  case hp =>
   dsimp only
   exact ⟨⟨by omega, by omega⟩, by omega⟩
 ·have d1 := of_decide_eq_false h1
  refine ev_exit (evx_then (evx_then (evx_hit (et (sq ?_)))))
  have s3 := sumN_all (f := List.length) (l := K) (k := k) om
  refine rg (xm rfl rfl (xs rfl rfl (nl (et (ev_ret (ret_mark ttOk rfl rfl rfl (⟨by rw [mixM_all p0 om], ?_⟩)))))))
  omega
theorem m_writes (ty : Nat) (W : List (Int × List Int)) (q : Int) (h : 0 ≤ q ∧ q + (sumN lenS W : Nat) ≤ 1099511627776) (hl : W.length ≤ 1048576) : Marks Tryz.prog 217 (false, [.s ty 2 (W.map fun x => [iC x.1, ints x.2])]) (false, [.s ty 2 (mkWrites q W)]) q (q + (sumN lenS W : Nat)) := by
 refine marks_intro (N := 27) Tryz.func217 rfl rfl rfl rfl (fun w v F => ?_)
 refine sq (rg (xs rfl rfl (nl (et (sq (sq (rg (xs rfl rfl (nl (et (ev_blk (ev_loop (fun i : Nat × Int => (⟨[(5, iV i.1), (1, iV i.2), (0, .p false [.rt 900])], [], [(900, ty, 2, mixM (fun x => [iC x.1, ints x.2]) (gW q W) W i.1)], []⟩ : St)) (fun i => i.1 ≤ W.length ∧ i.2 = q + (sumN lenS (W.take i.1) : Nat)) (fun i => W.length - i.1) (0, q) [] (⟨by simp, by simp [sumN]⟩) ⟨trf, trf, ⟨⟨_, rfl, by exact mixM_zero _ _ _⟩, trivial⟩, tre, rfl⟩ ?_))))))))))))
 intro i hp
 obtain ⟨k, z⟩ := i
 have hp : k ≤ W.length ∧ z = q + (sumN lenS (W.take k) : Nat) := hp
 obtain ⟨p0, p1⟩ := hp
 show Ev _ _ _ _ (⟨[(5, iV k), (1, iV z), (0, .p false [.rt 900])], [], [(900, ty, 2, mixM (fun x => [iC x.1, ints x.2]) (gW q W) W k)], []⟩ : St)
 have hM : (mixM (fun x => [iC x.1, ints x.2]) (gW q W) W k).length = W.length := mixM_len p0
 refine sq (sq (rg (xm rfl rfl (xm rfl rfl (xo (q_len_rt ttOk rfl rfl rfl) rfl (xb ttOk rfl rfl (nl (et (ev_cond rfl (fun h1 => ?_) (fun h1 => ?_))))))))))
 ·have d1 := of_decide_eq_true h1
  refine ev_skip (et (sq (ev_blk (sq ?_))))
  have s1 := sumN_next (f := lenS) (l := W) (k := k) om
  have s2 := sumN_le lenS W (k + 1)
  have s5 : lenS (W[k]'om) = 1 + (W[k]'om).2.length := rfl
  refine rg (xm rfl rfl (xm rfl rfl (xm rfl rfl (xo (q_ix_rt (m := k) ttOk rfl rfl rfl rfl rfl rfl (by first | (rw [hM]; omega) | (rw [List.length_set, hM]; omega))) rfl (xf ttOk rfl rfl (evl_e (e_st_pr ttOk rfl rfl rfl rfl rfl rfl rfl (mixM_at om) rfl rfl rfl rfl rfl) (nl (et (sq (rg (xm rfl rfl (xa rfl rfl rfl om rfl (xs rfl rfl (nl (et (rg (xm rfl rfl (xm rfl rfl (xo (q_ix_rt (m := k) ttOk rfl rfl rfl rfl rfl rfl (by first | (rw [hM]; omega) | (rw [List.length_set, hM]; omega))) rfl (xf ttOk rfl rfl (xo (q_load_pr ttOk rfl rfl rfl rfl (set_get (by rw [hM]; omega)) rfl rfl) rfl (xm rfl rfl (evl_marks (cf rfl) rfl rfl rfl rfl (set_get (by rw [hM]; omega)) rfl (fun ty' => m_ints ty' (W[k]'om).2 (z + 1) om) (set2 (mixM_set om (by unfold gW; rw [p1, getD_lenW om]; rfl))) rfl rfl rfl (xs rfl rfl (nl (eb (et (rg (xm rfl rfl (xa rfl rfl rfl om rfl (xs rfl rfl (nl (eve_round (k + 1, z + 1 + (W[k]'om).2.length) [] ?hp ⟨trf, trf, ⟨⟨_, rfl, by rfl⟩, trivial⟩, tre, rfl⟩)))))))))))))))))))))))))))))))))
  case hp =>
   dsimp only
   exact ⟨⟨by omega, by omega⟩, by omega⟩
 ·have d1 := of_decide_eq_false h1
  refine ev_exit (evx_then (evx_then (evx_hit (et (sq ?_)))))
  have s3 := sumN_all (f := lenS) (l := W) (k := k) om
  refine rg (xm rfl rfl (xs rfl rfl (nl (et (ev_ret (ret_mark ttOk rfl rfl rfl (⟨by rw [mixM_all p0 om], ?_⟩)))))))
  omega
theorem m_disk (t1 t2 : Nat) (d : Disk) (q : Int) (h : 0 ≤ q ∧ q ≤ 549755813888) (hs : smD d) : Marks Tryz.prog 160 (true, [.s t1 1 (d.kept.map fun r => [ints r]), .s t2 2 (d.wait.map fun x => [iC x.1, ints x.2])]) (true, [.s t1 1 (mkRows q d.kept), .s t2 2 (mkWrites (q + (sumN List.length d.kept : Nat)) d.wait)]) q (q + mkN d) := by
 refine marks_intro (N := 14) Tryz.func160 rfl rfl rfl rfl (fun w v F => ?_)
 unfold smD mkN at hs
 unfold mkN
 refine sq (rg (evl_e (e_box rfl rfl rfl rfl) (xs rfl rfl (nl (et (sq (rg (xf ttOk rfl rfl (xl ttOk rfl rfl (xm rfl rfl (evl_mark (cf rfl) rfl rfl rfl (m_rows _ _ _ om om) rfl rfl rfl (xs rfl rfl (nl (et (sq (rg (xf ttOk rfl rfl (xl ttOk rfl rfl (xm rfl rfl (evl_mark (cf rfl) rfl rfl rfl (m_writes _ _ _ om om) rfl rfl rfl (xs rfl rfl (nl (et (sq (rg (xm rfl rfl (xs rfl rfl (nl (et (ev_ret (ret_mark ttOk rfl rfl rfl ?_)))))))))))))))))))))))))))))))
 exact ⟨rfl, by omega⟩
theorem m_two (t1 t2 t3 t4 : Nat) (t : Two) (q : Int) (h : 0 ≤ q ∧ q ≤ 274877906944) (hs : smT t) : Marks Tryz.prog 74 (true, [.s t1 1 (t.a.kept.map fun r => [ints r]), .s t2 2 (t.a.wait.map fun x => [iC x.1, ints x.2]), .s t3 1 (t.b.kept.map fun r => [ints r]), .s t4 2 (t.b.wait.map fun x => [iC x.1, ints x.2])]) (true, [.s t1 1 (mkRows q t.a.kept), .s t2 2 (mkWrites (q + (sumN List.length t.a.kept : Nat)) t.a.wait), .s t3 1 (mkRows (q + mkN t.a) t.b.kept), .s t4 2 (mkWrites (q + mkN t.a + (sumN List.length t.b.kept : Nat)) t.b.wait)]) q (q + mkN t.a + mkN t.b) := by
 refine marks_intro (N := 14) Tryz.func74 rfl rfl rfl rfl (fun w v F => ?_)
 obtain ⟨hs1, hs2⟩ := hs
 have hs3 := hs1.2.2
 refine sq (rg (evl_e (e_box rfl rfl rfl rfl) (xs rfl rfl (nl (et (sq (rg (xf ttOk rfl rfl (xl ttOk rfl rfl (xm rfl rfl ?_))))))))))
 first | refine evl_mark (cf rfl) rfl rfl rfl (m_disk _ _ t.a _ om ‹_›) rfl rfl rfl ?_ | refine evl_mark (cf rfl) rfl rfl rfl (m_disk _ _ t.b _ om ‹_›) rfl rfl rfl ?_
 refine xs rfl rfl (nl (et (sq (rg (xf ttOk rfl rfl (xl ttOk rfl rfl (xm rfl rfl ?_)))))))
 first | refine evl_mark (cf rfl) rfl rfl rfl (m_disk _ _ t.a _ om ‹_›) rfl rfl rfl ?_ | refine evl_mark (cf rfl) rfl rfl rfl (m_disk _ _ t.b _ om ‹_›) rfl rfl rfl ?_
 refine xs rfl rfl (nl (et (sq (rg (xm rfl rfl (xs rfl rfl (nl (et (ev_ret (ret_mark ttOk rfl rfl rfl ?_))))))))))
 exact ⟨rfl, by omega⟩
theorem m_head (ty : Nat) (x : Head) (q : Int) (h : 0 ≤ q ∧ q + (3 * x.seen.length : Nat) ≤ 1099511627776) : Marks Tryz.prog 75 (true, [.v (.int .i64 x.num), .v (.int .i64 x.base), .v (.int .i64 x.time), .s ty 3 (x.seen.map markC)]) (true, [.v (.int .i64 x.num), .v (.int .i64 x.base), .v (.int .i64 x.time), .s ty 3 (mk3 q x.seen.length)]) q (q + (3 * x.seen.length : Nat)) := by
 refine marks_intro (N := 10) Tryz.func75 rfl rfl rfl rfl (fun w v F => ?_)
 refine sq (rg (evl_e (e_box rfl rfl rfl rfl) (xs rfl rfl (nl (et (sq (rg (xf ttOk rfl rfl (xl ttOk rfl rfl (xm rfl rfl (evl_mark (cf rfl) rfl rfl rfl (m_marks _ _ _ om) rfl rfl rfl (xs rfl rfl (nl (et (sq (rg (xm rfl rfl (xs rfl rfl (nl (et (ev_ret (ret_mark ttOk rfl rfl rfl ?_))))))))))))))))))))))
 exact ⟨rfl, by omega⟩
theorem h_ints (m : Nat) (q q2 : Int) (hq : q2 = q) (h : 0 ≤ q ∧ q + (1 * m : Nat) ≤ 2199023255552) : Pure Tryz.prog 248 [one (.s 1 (mk1 q m)), one (iC q2)] (iR (q + (m : Nat))) := by
 refine pure_intro (N := 21) Tryz.func248 rfl rfl rfl rfl (fun H w => ?_)
 have hr := rangeLen m
 refine sq (rg (xs rfl rfl (nl (et (sq (sq (rg (xs rfl rfl (nl (et (ev_blk (ev_loop (fun i : Nat × Int => (⟨[(5, iV i.1), (0, cV (.s 1 (mk1 q m))), (1, iV i.2)], [], [], []⟩ : St)) (fun i => i.1 ≤ m ∧ i.2 = q + (i.1 : Nat)) (fun i => m - i.1) (0, q2) [] (⟨by simp, by simp [hq]⟩) lei ?_))))))))))))
 intro i hp
 obtain ⟨k, z⟩ := i
 have hp : k ≤ m ∧ z = q + (k : Nat) := hp
 obtain ⟨p0, p1⟩ := hp
 show Ev _ _ _ _ (⟨[(5, iV k), (0, cV (.s 1 (mk1 q m))), (1, iV z)], [], [], []⟩ : St)
 refine sq (sq (rg (xm rfl rfl (xm rfl rfl (xo (q_len_map ttOk rfl rfl) rfl (xb ttOk rfl rfl (nl (et (ev_cond rfl (fun h1 => ?_) (fun h1 => ?_))))))))))
 ·have d1 := of_decide_eq_true h1
  refine ev_skip (et (sq (ev_blk (sq (sq (rg (xm rfl rfl (xm rfl rfl (xo (q_ix_map ttOk rfl rfl rfl rfl om) rfl (xl ttOk rfl rfl (xm rfl rfl (xb ttOk rfl rfl (nl (et (ev_cond rfl (fun h2 => ?_) (fun h2 => ?_))))))))))))))))
  ·have d2 := of_decide_eq_true h2
   refine sq (rg (xs rfl rfl (nl (et (ev_ret (evr_then (evr_blk (evr_then (evr_then (evr_blk (evr_then (ret_pure' ttOk rfl rfl (congrArg iR (?_ : _ = _))))))))))))))
   first | omega | (exfalso; simp only [List.getElem_range] at *; omega) | (simp only [List.getElem_range] at *; omega)
  ·have d2 := of_decide_eq_false h2
   refine ev_skip (et (rg (xm rfl rfl (xa rfl rfl rfl om rfl (xs rfl rfl (nl (eb (et (rg (xm rfl rfl (xa rfl rfl rfl om rfl (xs rfl rfl (nl (eve_round (k + 1, _) [] ?hp lei))))))))))))))
   case hp =>
    dsimp only
    exact ⟨⟨by omega, by omega⟩, by omega⟩
 ·have d1 := of_decide_eq_false h1
  refine ev_exit (evx_then (evx_then (evx_hit (et (sq (rg (xm rfl rfl (xs rfl rfl (nl (et (ev_ret (ret_pure' ttOk rfl rfl (congrArg iR (?_ : _ = _))))))))))))))
  first | omega | (exfalso; simp only [List.getElem_range] at *; omega) | (simp only [List.getElem_range] at *; omega)
theorem h_marks (m : Nat) (q q2 : Int) (hq : q2 = q) (h : 0 ≤ q ∧ q + (3 * m : Nat) ≤ 2199023255552) : Pure Tryz.prog 81 [one (.s 3 (mk3 q m)), one (iC q2)] (iR (q + (3 * m : Nat))) := by
 refine pure_intro (N := 40) Tryz.func81 rfl rfl rfl rfl (fun H w => ?_)
 have hr := rangeLen m
 refine sq (rg (xs rfl rfl (nl (et (sq (sq (rg (xs rfl rfl (nl (et (ev_blk (ev_loop (fun i : Nat × Int => (⟨[(5, iV i.1), (0, cV (.s 3 (mk3 q m))), (1, iV i.2)], [], [], []⟩ : St)) (fun i => i.1 ≤ m ∧ i.2 = q + (3 * i.1 : Nat)) (fun i => m - i.1) (0, q2) [] (⟨by simp, by simp [hq]⟩) lei ?_))))))))))))
 intro i hp
 obtain ⟨k, z⟩ := i
 have hp : k ≤ m ∧ z = q + (3 * k : Nat) := hp
 obtain ⟨p0, p1⟩ := hp
 show Ev _ _ _ _ (⟨[(5, iV k), (0, cV (.s 3 (mk3 q m))), (1, iV z)], [], [], []⟩ : St)
 refine sq (sq (rg (xm rfl rfl (xm rfl rfl (xo (q_len_map ttOk rfl rfl) rfl (xb ttOk rfl rfl (nl (et (ev_cond rfl (fun h1 => ?_) (fun h1 => ?_))))))))))
 ·have d1 := of_decide_eq_true h1
  refine ev_skip (et (sq (ev_blk (sq (sq (rg (xm rfl rfl (xm rfl rfl (xo (q_ix_map ttOk rfl rfl rfl rfl om) rfl (xf ttOk rfl rfl (xl ttOk rfl rfl (xm rfl rfl (xb ttOk rfl rfl (nl (et (ev_cond rfl (fun h2 => ?_) (fun h2 => ?_)))))))))))))))))
  ·have d2 := of_decide_eq_true h2
   refine sq (rg (xs rfl rfl (nl (et (ev_ret (evr_then (evr_blk (evr_then (evr_then (evr_blk (evr_then (ret_pure' ttOk rfl rfl (congrArg iR (?_ : _ = _))))))))))))))
   first | omega | (exfalso; simp only [List.getElem_range] at *; omega) | (simp only [List.getElem_range] at *; omega)
  ·have d2 := of_decide_eq_false h2
   refine ev_skip (et (sq (rg (xm rfl rfl (xa rfl rfl rfl om rfl (xs rfl rfl (nl (et (sq (sq (rg (xm rfl rfl (xm rfl rfl (xo (q_ix_map ttOk rfl rfl rfl rfl om) rfl (xf ttOk rfl rfl (xl ttOk rfl rfl (xm rfl rfl (xb ttOk rfl rfl (nl (et (ev_cond rfl (fun h3 => ?_) (fun h3 => ?_))))))))))))))))))))))
   ·have d3 := of_decide_eq_true h3
    refine sq (rg (xs rfl rfl (nl (et (ev_ret (evr_then (evr_blk (evr_then (evr_then (evr_blk (evr_then (ret_pure' ttOk rfl rfl (congrArg iR (?_ : _ = _))))))))))))))
    first | omega | (exfalso; simp only [List.getElem_range] at *; omega) | (simp only [List.getElem_range] at *; omega)
   ·have d3 := of_decide_eq_false h3
    refine ev_skip (et (sq (rg (xm rfl rfl (xa rfl rfl rfl om rfl (xs rfl rfl (nl (et (sq (sq (rg (xm rfl rfl (xm rfl rfl (xo (q_ix_map ttOk rfl rfl rfl rfl om) rfl (xf ttOk rfl rfl (xl ttOk rfl rfl (xm rfl rfl (xb ttOk rfl rfl (nl (et (ev_cond rfl (fun h4 => ?_) (fun h4 => ?_))))))))))))))))))))))
    ·have d4 := of_decide_eq_true h4
     refine ev_pr [0, 1, 4, 5, 6, 7, 8, 9, 10, 11, 12, 13, 14, 15, 16, 17, 18, 19, 20, 21, 22, 23, 24, 25, 26, 27, 28, 29, 30, 31, 32, 33, 34, 35, 36, 37, 38, 39] rfl (sq (rg (xs rfl rfl (nl (et (ev_ret (evr_then (evr_blk (evr_then (evr_then (evr_blk (evr_then (ret_pure' ttOk rfl rfl (congrArg iR (?_ : _ = _)))))))))))))))
     first | omega | (exfalso; simp only [List.getElem_range] at *; omega) | (simp only [List.getElem_range] at *; omega)
    ·have d4 := of_decide_eq_false h4
     refine ev_skip (et (ev_pr [0, 1, 4, 5, 6, 7, 8, 9, 10, 11, 12, 13, 14, 15, 16, 17, 18, 19, 20, 21, 22, 23, 24, 25, 26, 27, 28, 29, 30, 31, 32, 33, 34, 35, 36, 37, 38, 39] rfl (rg (xm rfl rfl (xa rfl rfl rfl om rfl (xs rfl rfl (nl (eb (et (rg (xm rfl rfl (xa rfl rfl rfl om rfl (xs rfl rfl (nl (eve_round (k + 1, _) [] ?hp lei)))))))))))))))
     case hp =>
      dsimp only
      exact ⟨⟨by omega, by omega⟩, by omega⟩
 ·have d1 := of_decide_eq_false h1
  refine ev_exit (evx_then (evx_then (evx_hit (et (sq (rg (xm rfl rfl (xs rfl rfl (nl (et (ev_ret (ret_pure' ttOk rfl rfl (congrArg iR (?_ : _ = _))))))))))))))
  first | omega | (exfalso; simp only [List.getElem_range] at *; omega) | (simp only [List.getElem_range] at *; omega)
theorem h_acks (m : Nat) (q q2 : Int) (hq : q2 = q) (h : 0 ≤ q ∧ q + (4 * m : Nat) ≤ 2199023255552) : Pure Tryz.prog 22 [one (.s 4 (mk4 q m)), one (iC q2)] (iR (q + (4 * m : Nat))) := by
 refine pure_intro (N := 49) Tryz.func22 rfl rfl rfl rfl (fun H w => ?_)
 have hr := rangeLen m
 refine sq (rg (xs rfl rfl (nl (et (sq (sq (rg (xs rfl rfl (nl (et (ev_blk (ev_loop (fun i : Nat × Int => (⟨[(5, iV i.1), (0, cV (.s 4 (mk4 q m))), (1, iV i.2)], [], [], []⟩ : St)) (fun i => i.1 ≤ m ∧ i.2 = q + (4 * i.1 : Nat)) (fun i => m - i.1) (0, q2) [] (⟨by simp, by simp [hq]⟩) lei ?_))))))))))))
 intro i hp
 obtain ⟨k, z⟩ := i
 have hp : k ≤ m ∧ z = q + (4 * k : Nat) := hp
 obtain ⟨p0, p1⟩ := hp
 show Ev _ _ _ _ (⟨[(5, iV k), (0, cV (.s 4 (mk4 q m))), (1, iV z)], [], [], []⟩ : St)
 refine sq (sq (rg (xm rfl rfl (xm rfl rfl (xo (q_len_map ttOk rfl rfl) rfl (xb ttOk rfl rfl (nl (et (ev_cond rfl (fun h1 => ?_) (fun h1 => ?_))))))))))
 ·have d1 := of_decide_eq_true h1
  refine ev_skip (et (sq (ev_blk (sq (sq (rg (xm rfl rfl (xm rfl rfl (xo (q_ix_map ttOk rfl rfl rfl rfl om) rfl (xf ttOk rfl rfl (xl ttOk rfl rfl (xm rfl rfl (xb ttOk rfl rfl (nl (et (ev_cond rfl (fun h2 => ?_) (fun h2 => ?_)))))))))))))))))
  ·have d2 := of_decide_eq_true h2
   refine sq (rg (xs rfl rfl (nl (et (ev_ret (evr_then (evr_blk (evr_then (evr_then (evr_blk (evr_then (ret_pure' ttOk rfl rfl (congrArg iR (?_ : _ = _))))))))))))))
   first | omega | (exfalso; simp only [List.getElem_range] at *; omega) | (simp only [List.getElem_range] at *; omega)
  ·have d2 := of_decide_eq_false h2
   refine ev_skip (et (sq (rg (xm rfl rfl (xa rfl rfl rfl om rfl (xs rfl rfl (nl (et (sq (sq (rg (xm rfl rfl (xm rfl rfl (xo (q_ix_map ttOk rfl rfl rfl rfl om) rfl (xf ttOk rfl rfl (xl ttOk rfl rfl (xm rfl rfl (xb ttOk rfl rfl (nl (et (ev_cond rfl (fun h3 => ?_) (fun h3 => ?_))))))))))))))))))))))
   ·have d3 := of_decide_eq_true h3
    refine sq (rg (xs rfl rfl (nl (et (ev_ret (evr_then (evr_blk (evr_then (evr_then (evr_blk (evr_then (ret_pure' ttOk rfl rfl (congrArg iR (?_ : _ = _))))))))))))))
    first | omega | (exfalso; simp only [List.getElem_range] at *; omega) | (simp only [List.getElem_range] at *; omega)
   ·have d3 := of_decide_eq_false h3
    refine ev_skip (et (sq (rg (xm rfl rfl (xa rfl rfl rfl om rfl (xs rfl rfl (nl (et (sq (sq (rg (xm rfl rfl (xm rfl rfl (xo (q_ix_map ttOk rfl rfl rfl rfl om) rfl (xf ttOk rfl rfl (xl ttOk rfl rfl (xm rfl rfl (xb ttOk rfl rfl (nl (et (ev_cond rfl (fun h4 => ?_) (fun h4 => ?_))))))))))))))))))))))
    ·have d4 := of_decide_eq_true h4
     refine ev_pr [0, 1, 4, 5, 6, 7, 8, 9, 10, 11, 12, 13, 14, 15, 16, 17, 18, 19, 20, 21, 22, 23, 24, 25, 26, 27, 28, 29, 30, 31, 32, 33, 34, 35, 36, 37, 38, 39, 40, 41, 42, 43, 44, 45, 46, 47, 48] rfl (sq (rg (xs rfl rfl (nl (et (ev_ret (evr_then (evr_blk (evr_then (evr_then (evr_blk (evr_then (ret_pure' ttOk rfl rfl (congrArg iR (?_ : _ = _)))))))))))))))
     first | omega | (exfalso; simp only [List.getElem_range] at *; omega) | (simp only [List.getElem_range] at *; omega)
    ·have d4 := of_decide_eq_false h4
     refine ev_skip (et (ev_pr [0, 1, 4, 5, 6, 7, 8, 9, 10, 11, 12, 13, 14, 15, 16, 17, 18, 19, 20, 21, 22, 23, 24, 25, 26, 27, 28, 29, 30, 31, 32, 33, 34, 35, 36, 37, 38, 39, 40, 41, 42, 43, 44, 45, 46, 47, 48] rfl (sq (rg (xm rfl rfl (xa rfl rfl rfl om rfl (xs rfl rfl (nl (et (sq (sq (rg (xm rfl rfl (xm rfl rfl (xo (q_ix_map ttOk rfl rfl rfl rfl om) rfl (xf ttOk rfl rfl (xl ttOk rfl rfl (xm rfl rfl (xb ttOk rfl rfl (nl (et (ev_cond rfl (fun h5 => ?_) (fun h5 => ?_)))))))))))))))))))))))
     ·have d5 := of_decide_eq_true h5
      refine sq (rg (xs rfl rfl (nl (et (ev_ret (evr_then (evr_blk (evr_then (evr_then (evr_blk (evr_then (ret_pure' ttOk rfl rfl (congrArg iR (?_ : _ = _))))))))))))))
      first | omega | (exfalso; simp only [List.getElem_range] at *; omega) | (simp only [List.getElem_range] at *; omega)
     ·have d5 := of_decide_eq_false h5
      refine ev_skip (et (rg (xm rfl rfl (xa rfl rfl rfl om rfl (xs rfl rfl (nl (eb (et (rg (xm rfl rfl (xa rfl rfl rfl om rfl (xs rfl rfl (nl (eve_round (k + 1, _) [] ?hp lei))))))))))))))
      case hp =>
       dsimp only
       exact ⟨⟨by omega, by omega⟩, by omega⟩
 ·have d1 := of_decide_eq_false h1
  refine ev_exit (evx_then (evx_then (evx_hit (et (sq (rg (xm rfl rfl (xs rfl rfl (nl (et (ev_ret (ret_pure' ttOk rfl rfl (congrArg iR (?_ : _ = _))))))))))))))
  first | omega | (exfalso; simp only [List.getElem_range] at *; omega) | (simp only [List.getElem_range] at *; omega)
theorem h_entries (m : Nat) (q q2 : Int) (hq : q2 = q) (h : 0 ≤ q ∧ q + (9 * m : Nat) ≤ 2199023255552) : Pure Tryz.prog 163 [one (.s 9 (mk9 q m)), one (iC q2)] (iR (q + (9 * m : Nat))) := by
 refine pure_intro (N := 99) Tryz.func163 rfl rfl rfl rfl (fun H w => ?_)
 have hr := rangeLen m
 refine sq (rg (xs rfl rfl (nl (et (sq (sq (rg (xs rfl rfl (nl (et (ev_blk (ev_loop (fun i : Nat × Int => (⟨[(5, iV i.1), (0, cV (.s 9 (mk9 q m))), (1, iV i.2)], [], [], []⟩ : St)) (fun i => i.1 ≤ m ∧ i.2 = q + (9 * i.1 : Nat)) (fun i => m - i.1) (0, q2) [] (⟨by simp, by simp [hq]⟩) lei ?_))))))))))))
 intro i hp
 obtain ⟨k, z⟩ := i
 have hp : k ≤ m ∧ z = q + (9 * k : Nat) := hp
 obtain ⟨p0, p1⟩ := hp
 show Ev _ _ _ _ (⟨[(5, iV k), (0, cV (.s 9 (mk9 q m))), (1, iV z)], [], [], []⟩ : St)
 refine sq (sq (rg (xm rfl rfl (xm rfl rfl (xo (q_len_map ttOk rfl rfl) rfl (xb ttOk rfl rfl (nl (et (ev_cond rfl (fun h1 => ?_) (fun h1 => ?_))))))))))
 ·have d1 := of_decide_eq_true h1
  refine ev_skip (et (sq (ev_blk (sq (sq (rg (xm rfl rfl (xm rfl rfl (xo (q_ix_map ttOk rfl rfl rfl rfl om) rfl (xf ttOk rfl rfl (xl ttOk rfl rfl (xm rfl rfl (xb ttOk rfl rfl (nl (et (ev_cond rfl (fun h2 => ?_) (fun h2 => ?_)))))))))))))))))
  ·have d2 := of_decide_eq_true h2
   refine sq (rg (xs rfl rfl (nl (et (ev_ret (evr_then (evr_blk (evr_then (evr_then (evr_blk (evr_then (ret_pure' ttOk rfl rfl (congrArg iR (?_ : _ = _))))))))))))))
   first | omega | (exfalso; simp only [List.getElem_range] at *; omega) | (simp only [List.getElem_range] at *; omega)
  ·have d2 := of_decide_eq_false h2
   refine ev_skip (et (sq (rg (xm rfl rfl (xa rfl rfl rfl om rfl (xs rfl rfl (nl (et (sq (sq (rg (xm rfl rfl (xm rfl rfl (xo (q_ix_map ttOk rfl rfl rfl rfl om) rfl (xf ttOk rfl rfl (xl ttOk rfl rfl (xm rfl rfl (xb ttOk rfl rfl (nl (et (ev_cond rfl (fun h3 => ?_) (fun h3 => ?_))))))))))))))))))))))
   ·have d3 := of_decide_eq_true h3
    refine sq (rg (xs rfl rfl (nl (et (ev_ret (evr_then (evr_blk (evr_then (evr_then (evr_blk (evr_then (ret_pure' ttOk rfl rfl (congrArg iR (?_ : _ = _))))))))))))))
    first | omega | (exfalso; simp only [List.getElem_range] at *; omega) | (simp only [List.getElem_range] at *; omega)
   ·have d3 := of_decide_eq_false h3
    refine ev_skip (et (sq (rg (xm rfl rfl (xa rfl rfl rfl om rfl (xs rfl rfl (nl (et (sq (sq (rg (xm rfl rfl (xm rfl rfl (xo (q_ix_map ttOk rfl rfl rfl rfl om) rfl (xf ttOk rfl rfl (xl ttOk rfl rfl (xm rfl rfl (xb ttOk rfl rfl (nl (et (ev_cond rfl (fun h4 => ?_) (fun h4 => ?_))))))))))))))))))))))
    ·have d4 := of_decide_eq_true h4
     refine ev_pr [0, 1, 4, 5, 6, 7, 8, 9, 10, 11, 12, 13, 14, 15, 16, 17, 18, 19, 20, 21, 22, 23, 24, 25, 26, 27, 28, 29, 30, 31, 32, 33, 34, 35, 36, 37, 38, 39, 40, 41, 42, 43, 44, 45, 46, 47, 48, 49, 50, 51, 52, 53, 54, 55, 56, 57, 58, 59, 60, 61, 62, 63, 64, 65, 66, 67, 68, 69, 70, 71, 72, 73, 74, 75, 76, 77, 78, 79, 80, 81, 82, 83, 84, 85, 86, 87, 88, 89, 90, 91, 92, 93, 94, 95, 96, 97, 98] rfl (sq (rg (xs rfl rfl (nl (et (ev_ret (evr_then (evr_blk (evr_then (evr_then (evr_blk (evr_then (ret_pure' ttOk rfl rfl (congrArg iR (?_ : _ = _)))))))))))))))
     first | omega | (exfalso; simp only [List.getElem_range] at *; omega) | (simp only [List.getElem_range] at *; omega)
    ·have d4 := of_decide_eq_false h4
     refine ev_skip (et (ev_pr [0, 1, 4, 5, 6, 7, 8, 9, 10, 11, 12, 13, 14, 15, 16, 17, 18, 19, 20, 21, 22, 23, 24, 25, 26, 27, 28, 29, 30, 31, 32, 33, 34, 35, 36, 37, 38, 39, 40, 41, 42, 43, 44, 45, 46, 47, 48, 49, 50, 51, 52, 53, 54, 55, 56, 57, 58, 59, 60, 61, 62, 63, 64, 65, 66, 67, 68, 69, 70, 71, 72, 73, 74, 75, 76, 77, 78, 79, 80, 81, 82, 83, 84, 85, 86, 87, 88, 89, 90, 91, 92, 93, 94, 95, 96, 97, 98] rfl (sq (rg (xm rfl rfl (xa rfl rfl rfl om rfl (xs rfl rfl (nl (et (sq (sq (rg (xm rfl rfl (xm rfl rfl (xo (q_ix_map ttOk rfl rfl rfl rfl om) rfl (xf ttOk rfl rfl (xl ttOk rfl rfl (xm rfl rfl (xb ttOk rfl rfl (nl (et (ev_cond rfl (fun h5 => ?_) (fun h5 => ?_)))))))))))))))))))))))
     ·have d5 := of_decide_eq_true h5
      refine sq (rg (xs rfl rfl (nl (et (ev_ret (evr_then (evr_blk (evr_then (evr_then (evr_blk (evr_then (ret_pure' ttOk rfl rfl (congrArg iR (?_ : _ = _))))))))))))))
      first | omega | (exfalso; simp only [List.getElem_range] at *; omega) | (simp only [List.getElem_range] at *; omega)
     ·have d5 := of_decide_eq_false h5
      refine ev_skip (et (sq (rg (xm rfl rfl (xa rfl rfl rfl om rfl (xs rfl rfl (nl (et (sq (sq (rg (xm rfl rfl (xm rfl rfl (xo (q_ix_map ttOk rfl rfl rfl rfl om) rfl (xf ttOk rfl rfl (xf ttOk rfl rfl (xl ttOk rfl rfl (xm rfl rfl (xb ttOk rfl rfl (nl (et (ev_cond rfl (fun h6 => ?_) (fun h6 => ?_)))))))))))))))))))))))
      ·have d6 := of_decide_eq_true h6
       refine sq (rg (xs rfl rfl (nl (et (ev_ret (evr_then (evr_blk (evr_then (evr_then (evr_blk (evr_then (ret_pure' ttOk rfl rfl (congrArg iR (?_ : _ = _))))))))))))))
       first | omega | (exfalso; simp only [List.getElem_range] at *; omega) | (simp only [List.getElem_range] at *; omega)
      ·have d6 := of_decide_eq_false h6
       refine ev_skip (et (sq (rg (xm rfl rfl (xa rfl rfl rfl om rfl (xs rfl rfl (nl (et (sq (sq (rg (xm rfl rfl (xm rfl rfl (xo (q_ix_map ttOk rfl rfl rfl rfl om) rfl (xf ttOk rfl rfl (xf ttOk rfl rfl (xl ttOk rfl rfl (xm rfl rfl (xb ttOk rfl rfl (nl (et (ev_cond rfl (fun h7 => ?_) (fun h7 => ?_)))))))))))))))))))))))
       ·have d7 := of_decide_eq_true h7
        refine ev_pr [0, 1, 4, 5, 6, 7, 8, 9, 10, 11, 12, 13, 14, 15, 16, 17, 18, 19, 20, 21, 22, 23, 24, 25, 26, 27, 28, 29, 30, 31, 32, 33, 34, 35, 36, 37, 38, 39, 40, 41, 42, 43, 44, 45, 46, 47, 48, 49, 50, 51, 52, 53, 54, 55, 56, 57, 58, 59, 60, 61, 62, 63, 64, 65, 66, 67, 68, 69, 70, 71, 72, 73, 74, 75, 76, 77, 78, 79, 80, 81, 82, 83, 84, 85, 86, 87, 88, 89, 90, 91, 92, 93, 94, 95, 96, 97, 98] rfl (sq (rg (xs rfl rfl (nl (et (ev_ret (evr_then (evr_blk (evr_then (evr_then (evr_blk (evr_then (ret_pure' ttOk rfl rfl (congrArg iR (?_ : _ = _)))))))))))))))
        first | omega | (exfalso; simp only [List.getElem_range] at *; omega) | (simp only [List.getElem_range] at *; omega)
       ·have d7 := of_decide_eq_false h7
        refine ev_skip (et (ev_pr [0, 1, 4, 5, 6, 7, 8, 9, 10, 11, 12, 13, 14, 15, 16, 17, 18, 19, 20, 21, 22, 23, 24, 25, 26, 27, 28, 29, 30, 31, 32, 33, 34, 35, 36, 37, 38, 39, 40, 41, 42, 43, 44, 45, 46, 47, 48, 49, 50, 51, 52, 53, 54, 55, 56, 57, 58, 59, 60, 61, 62, 63, 64, 65, 66, 67, 68, 69, 70, 71, 72, 73, 74, 75, 76, 77, 78, 79, 80, 81, 82, 83, 84, 85, 86, 87, 88, 89, 90, 91, 92, 93, 94, 95, 96, 97, 98] rfl (sq (rg (xm rfl rfl (xa rfl rfl rfl om rfl (xs rfl rfl (nl (et (sq (sq (rg (xm rfl rfl (xm rfl rfl (xo (q_ix_map ttOk rfl rfl rfl rfl om) rfl (xf ttOk rfl rfl (xf ttOk rfl rfl (xl ttOk rfl rfl (xm rfl rfl (xb ttOk rfl rfl (nl (et (ev_cond rfl (fun h8 => ?_) (fun h8 => ?_))))))))))))))))))))))))
        ·have d8 := of_decide_eq_true h8
         refine sq (rg (xs rfl rfl (nl (et (ev_ret (evr_then (evr_blk (evr_then (evr_then (evr_blk (evr_then (ret_pure' ttOk rfl rfl (congrArg iR (?_ : _ = _))))))))))))))
         first | omega | (exfalso; simp only [List.getElem_range] at *; omega) | (simp only [List.getElem_range] at *; omega)
        ·have d8 := of_decide_eq_false h8
         refine ev_skip (et (sq (rg (xm rfl rfl (xa rfl rfl rfl om rfl (xs rfl rfl (nl (et (sq (sq (rg (xm rfl rfl (xm rfl rfl (xo (q_ix_map ttOk rfl rfl rfl rfl om) rfl (xf ttOk rfl rfl (xf ttOk rfl rfl (xl ttOk rfl rfl (xm rfl rfl (xb ttOk rfl rfl (nl (et (ev_cond rfl (fun h9 => ?_) (fun h9 => ?_)))))))))))))))))))))))
         ·have d9 := of_decide_eq_true h9
          refine sq (rg (xs rfl rfl (nl (et (ev_ret (evr_then (evr_blk (evr_then (evr_then (evr_blk (evr_then (ret_pure' ttOk rfl rfl (congrArg iR (?_ : _ = _))))))))))))))
          first | omega | (exfalso; simp only [List.getElem_range] at *; omega) | (simp only [List.getElem_range] at *; omega)
         ·have d9 := of_decide_eq_false h9
          refine ev_skip (et (sq (rg (xm rfl rfl (xa rfl rfl rfl om rfl (xs rfl rfl (nl (et (ev_pr [0, 1, 4, 5, 6, 7, 8, 9, 10, 11, 12, 13, 14, 15, 16, 17, 18, 19, 20, 21, 22, 23, 24, 25, 26, 27, 28, 29, 30, 31, 32, 33, 34, 35, 36, 37, 38, 39, 40, 41, 42, 43, 44, 45, 46, 47, 48, 49, 50, 51, 52, 53, 54, 55, 56, 57, 58, 59, 60, 61, 62, 63, 64, 65, 66, 67, 68, 69, 70, 71, 72, 73, 74, 75, 76, 77, 78, 79, 80, 81, 82, 83, 84, 85, 86, 87, 88, 89, 90, 91, 92, 93, 94, 95, 96, 97, 98] rfl (sq (sq (rg (xm rfl rfl (xm rfl rfl (xo (q_ix_map ttOk rfl rfl rfl rfl om) rfl (xf ttOk rfl rfl (xf ttOk rfl rfl (xl ttOk rfl rfl (xm rfl rfl (xb ttOk rfl rfl (nl (et (ev_cond rfl (fun h10 => ?_) (fun h10 => ?_))))))))))))))))))))))))
          ·have d10 := of_decide_eq_true h10
           refine sq (rg (xs rfl rfl (nl (et (ev_ret (evr_then (evr_blk (evr_then (evr_then (evr_blk (evr_then (ret_pure' ttOk rfl rfl (congrArg iR (?_ : _ = _))))))))))))))
           first | omega | (exfalso; simp only [List.getElem_range] at *; omega) | (simp only [List.getElem_range] at *; omega)
          ·have d10 := of_decide_eq_false h10
           refine ev_skip (et (rg (xm rfl rfl (xa rfl rfl rfl om rfl (xs rfl rfl (nl (eb (et (rg (xm rfl rfl (xa rfl rfl rfl om rfl (xs rfl rfl (nl (eve_round (k + 1, _) [] ?hp lei))))))))))))))
           case hp =>
            dsimp only
            exact ⟨⟨by omega, by omega⟩, by omega⟩
 ·have d1 := of_decide_eq_false h1
  refine ev_exit (evx_then (evx_then (evx_hit (et (sq (rg (xm rfl rfl (xs rfl rfl (nl (et (ev_ret (ret_pure' ttOk rfl rfl (congrArg iR (?_ : _ = _))))))))))))))
  first | omega | (exfalso; simp only [List.getElem_range] at *; omega) | (simp only [List.getElem_range] at *; omega)
theorem h_rows (K : List (List Int)) (q q2 : Int) (hq : q2 = q) (h : 0 ≤ q ∧ q + (sumN List.length K : Nat) ≤ 2199023255552) (hl : K.length ≤ 1048576) : Pure Tryz.prog 218 [one (.s 1 (mkRows q K)), one (iC q2)] (iR (q + (sumN List.length K : Nat))) := by
 refine pure_intro (N := 21) Tryz.func218 rfl rfl rfl rfl (fun H w => ?_)
 have hr := rangeLen K.length
 refine sq (rg (xs rfl rfl (nl (et (sq (sq (rg (xs rfl rfl (nl (et (ev_blk (ev_loop (fun i : Nat × Int => (⟨[(5, iV i.1), (0, cV (.s 1 (mkRows q K))), (1, iV i.2)], [], [], []⟩ : St)) (fun i => i.1 ≤ K.length ∧ i.2 = q + (sumN List.length (K.take i.1) : Nat)) (fun i => K.length - i.1) (0, q2) [] (⟨by simp, by simp [hq, sumN]⟩) lei ?_))))))))))))
 intro i hp
 obtain ⟨k, z⟩ := i
 have hp : k ≤ K.length ∧ z = q + (sumN List.length (K.take k) : Nat) := hp
 obtain ⟨p0, p1⟩ := hp
 show Ev _ _ _ _ (⟨[(5, iV k), (0, cV (.s 1 (mkRows q K))), (1, iV z)], [], [], []⟩ : St)
 refine sq (sq (rg (xm rfl rfl (xm rfl rfl (xo (q_len_map ttOk rfl rfl) rfl (xb ttOk rfl rfl (nl (et (ev_cond rfl (fun h1 => ?_) (fun h1 => ?_))))))))))
 ·have d1 := of_decide_eq_true h1
  refine ev_skip (et (sq (ev_blk (sq ?_))))
  have s1 := sumN_next (f := List.length) (l := K) (k := k) om
  have s2 := sumN_le List.length K (k + 1)
  have s4 := congrArg List.length (getD_len (K := K) (k := k) om)
  refine rg (xm rfl rfl (xm rfl rfl (xo (q_ix_map ttOk rfl rfl rfl rfl om) rfl (xl ttOk rfl rfl (xm rfl rfl (evl_call (nm := 17) (cf rfl) (h_ints _ _ _ (by simp only [List.getElem_range]; omega) (by simp only [List.getElem_range]; rw [s4]; omega)) (rs_of rfl) rfl rfl rfl (xs rfl rfl (nl (et (sq (rg (xm rfl rfl (xb ttOk rfl rfl (nl (et (ev_cond rfl (fun h2 => ?_) (fun h2 => ?_)))))))))))))))))
  ·have d2 := of_decide_eq_true h2
   refine sq (rg (xs rfl rfl (nl (et (ev_ret (evr_blk (evr_then (evr_then (evr_blk (evr_then (ret_pure' ttOk rfl rfl (congrArg iR (?_ : _ = _)))))))))))))
   first | (exfalso; simp only [List.getElem_range] at *; rw [s4] at *; omega) | omega
  ·have d2 := of_decide_eq_false h2
   refine ev_skip (eb (et (rg (xm rfl rfl (xa rfl rfl rfl om rfl (xs rfl rfl (nl (eve_round (k + 1, _) [] ?hp lei))))))))
   case hp =>
    simp only [List.getElem_range] at *
    rw [s4] at *
    exact ⟨⟨by omega, by omega⟩, by omega⟩
 ·have d1 := of_decide_eq_false h1
  refine ev_exit (evx_then (evx_then (evx_hit (et (sq ?_)))))
  have s3 := sumN_all (f := List.length) (l := K) (k := k) om
  refine rg (xm rfl rfl (xs rfl rfl (nl (et (ev_ret (ret_pure' ttOk rfl rfl (congrArg iR (?_ : _ = _))))))))
  first | (exfalso; simp only [List.getElem_range] at *; rw [s4] at *; omega) | omega
theorem h_writes (W : List (Int × List Int)) (q q2 : Int) (hq : q2 = q) (h : 0 ≤ q ∧ q + (sumN lenS W : Nat) ≤ 2199023255552) (hl : W.length ≤ 1048576) : Pure Tryz.prog 219 [one (.s 2 (mkWrites q W)), one (iC q2)] (iR (q + (sumN lenS W : Nat))) := by
 refine pure_intro (N := 31) Tryz.func219 rfl rfl rfl rfl (fun H w => ?_)
 have hr := rangeLen W.length
 refine sq (rg (xs rfl rfl (nl (et (sq (sq (rg (xs rfl rfl (nl (et (ev_blk (ev_loop (fun i : Nat × Int => (⟨[(5, iV i.1), (0, cV (.s 2 (mkWrites q W))), (1, iV i.2)], [], [], []⟩ : St)) (fun i => i.1 ≤ W.length ∧ i.2 = q + (sumN lenS (W.take i.1) : Nat)) (fun i => W.length - i.1) (0, q2) [] (⟨by simp, by simp [hq, sumN]⟩) lei ?_))))))))))))
 intro i hp
 obtain ⟨k, z⟩ := i
 have hp : k ≤ W.length ∧ z = q + (sumN lenS (W.take k) : Nat) := hp
 obtain ⟨p0, p1⟩ := hp
 show Ev _ _ _ _ (⟨[(5, iV k), (0, cV (.s 2 (mkWrites q W))), (1, iV z)], [], [], []⟩ : St)
 refine sq (sq (rg (xm rfl rfl (xm rfl rfl (xo (q_len_map ttOk rfl rfl) rfl (xb ttOk rfl rfl (nl (et (ev_cond rfl (fun h1 => ?_) (fun h1 => ?_))))))))))
 ·have d1 := of_decide_eq_true h1
  refine ev_skip (et (sq (ev_blk (sq (sq ?_)))))
  have s1 := sumN_next (f := lenS) (l := W) (k := k) om
  have s2 := sumN_le lenS W (k + 1)
  have s5 : lenS (W[k]'om) = 1 + (W[k]'om).2.length := rfl
  have s4 := congrArg (fun x => x.2.length) (getD_lenW (K := W) (k := k) om)
  refine rg (xm rfl rfl (xm rfl rfl (xo (q_ix_map ttOk rfl rfl rfl rfl om) rfl (xf ttOk rfl rfl (xl ttOk rfl rfl (xm rfl rfl (xb ttOk rfl rfl (nl (et (ev_cond rfl (fun h2 => ?_) (fun h2 => ?_)))))))))))
  ·have d2 := of_decide_eq_true h2
   refine sq (rg (xs rfl rfl (nl (et (ev_ret (evr_then (evr_blk (evr_then (evr_then (evr_blk (evr_then (ret_pure' ttOk rfl rfl (congrArg iR (?_ : _ = _))))))))))))))
   first | (exfalso; simp only [List.getElem_range] at *; (try rw [s4] at *); omega) | omega
  ·have d2 := of_decide_eq_false h2
   refine ev_skip (et (sq (rg (xm rfl rfl (xa rfl rfl rfl om rfl (xs rfl rfl (nl (et (sq (rg (xm rfl rfl (xm rfl rfl (xo (q_ix_map ttOk rfl rfl rfl rfl om) rfl (xf ttOk rfl rfl (xl ttOk rfl rfl (xm rfl rfl (evl_call (nm := 27) (cf rfl) (h_ints _ _ _ (by simp only [List.getElem_range]; omega) (by simp only [List.getElem_range]; rw [s4]; omega)) (rs_of rfl) rfl rfl rfl (xs rfl rfl (nl (et (sq (rg (xm rfl rfl (xb ttOk rfl rfl (nl (et (ev_cond rfl (fun h3 => ?_) (fun h3 => ?_))))))))))))))))))))))))))))
   ·have d3 := of_decide_eq_true h3
    refine sq (rg (xs rfl rfl (nl (et (ev_ret (evr_blk (evr_then (evr_then (evr_blk (evr_then (ret_pure' ttOk rfl rfl (congrArg iR (?_ : _ = _)))))))))))))
    first | (exfalso; simp only [List.getElem_range] at *; (try rw [s4] at *); omega) | omega
   ·have d3 := of_decide_eq_false h3
    refine ev_skip (eb (et (rg (xm rfl rfl (xa rfl rfl rfl om rfl (xs rfl rfl (nl (eve_round (k + 1, _) [] ?hp lei))))))))
    case hp =>
     simp only [List.getElem_range] at *
     rw [s4] at *
     exact ⟨⟨by omega, by omega⟩, by omega⟩
 ·have d1 := of_decide_eq_false h1
  refine ev_exit (evx_then (evx_then (evx_hit (et (sq ?_)))))
  have s3 := sumN_all (f := lenS) (l := W) (k := k) om
  refine rg (xm rfl rfl (xs rfl rfl (nl (et (ev_ret (ret_pure' ttOk rfl rfl (congrArg iR (?_ : _ = _))))))))
  first | (exfalso; simp only [List.getElem_range] at *; (try rw [s4] at *); omega) | omega
theorem h_disk (d : Disk) (q q2 : Int) (hq : q2 = q) (h : 0 ≤ q ∧ q ≤ 549755813888) (hs : smD d) : Pure Tryz.prog 162 [many [.s 1 (mkRows q d.kept), .s 2 (mkWrites (q + (sumN List.length d.kept : Nat)) d.wait)], one (iC q2)] (iR (q + (mkN d : Nat))) := by
 refine pure_intro (N := 18) Tryz.func162 rfl rfl rfl rfl (fun H w => ?_)
 unfold smD mkN at hs
 unfold mkN
 refine sq (rg (evl_e (e_box rfl rfl rfl rfl) (xs rfl rfl (nl (et (sq (rg (xf ttOk rfl rfl (xl ttOk rfl rfl (xm rfl rfl (evl_call (nm := 8) (cf rfl) (h_rows _ _ _ om om om) (rs_of rfl) rfl rfl rfl (xs rfl rfl (nl (et (sq (sq (rg (xm rfl rfl (xb ttOk rfl rfl (nl (et (ev_cond rfl (fun h1 => ?_) (fun h1 => ?_)))))))))))))))))))))))
 ·have d1 := of_decide_eq_true h1
  refine sq (rg (xs rfl rfl (nl (et (ev_ret (evr_then (ret_pure' ttOk rfl rfl (congrArg iR (?_ : _ = _)))))))))
  first | omega | rfl
 ·have d1 := of_decide_eq_false h1
  refine ev_skip (et (sq (rg (xf ttOk rfl rfl (xl ttOk rfl rfl (xm rfl rfl (evl_call (nm := 14) (cf rfl) (h_writes _ _ _ om om om) (rs_of rfl) rfl rfl rfl (xs rfl rfl (nl (et (sq (sq (rg (xm rfl rfl (xb ttOk rfl rfl (nl (et (ev_cond rfl (fun h2 => ?_) (fun h2 => ?_)))))))))))))))))))
  ·have d2 := of_decide_eq_true h2
   refine sq (rg (xs rfl rfl (nl (et (ev_ret (evr_then (ret_pure' ttOk rfl rfl (congrArg iR (?_ : _ = _)))))))))
   first | omega | rfl
  ·have d2 := of_decide_eq_false h2
   refine ev_skip (et (sq (rg (xm rfl rfl (xs rfl rfl (nl (et (ev_ret (ret_pure' ttOk rfl rfl (congrArg iR (?_ : _ = _)))))))))))
   first | omega | rfl
theorem h_two (t : Two) (q q2 : Int) (hq : q2 = q) (h : 0 ≤ q ∧ q ≤ 274877906944) (hs : smT t) : Pure Tryz.prog 78 [many [.s 1 (mkRows q t.a.kept), .s 2 (mkWrites (q + (sumN List.length t.a.kept : Nat)) t.a.wait), .s 1 (mkRows (q + mkN t.a) t.b.kept), .s 2 (mkWrites (q + mkN t.a + (sumN List.length t.b.kept : Nat)) t.b.wait)], one (iC q2)] (iR (q + mkN t.a + mkN t.b)) := by
 refine pure_intro (N := 18) Tryz.func78 rfl rfl rfl rfl (fun H w => ?_)
 obtain ⟨hs1, hs2⟩ := hs
 have hs3 := hs1.2.2
 have hs4 := hs2.2.2
 refine sq (rg (evl_e (e_box rfl rfl rfl rfl) (xs rfl rfl (nl (et (sq (rg (xf ttOk rfl rfl (xl ttOk rfl rfl (xm rfl rfl ?_))))))))))
 first | refine evl_call (nm := 8) (cf rfl) (h_disk t.a _ _ om om ‹_›) (rs_of rfl) rfl rfl rfl ?_ | refine evl_call (nm := 8) (cf rfl) (h_disk t.b _ _ om om ‹_›) (rs_of rfl) rfl rfl rfl ?_
 refine xs rfl rfl (nl (et (sq (sq (rg (xm rfl rfl (xb ttOk rfl rfl (nl (et (ev_cond rfl (fun h1 => ?_) (fun h1 => ?_)))))))))))
 ·have d1 := of_decide_eq_true h1
  refine sq (rg (xs rfl rfl (nl (et (ev_ret (evr_then (ret_pure' ttOk rfl rfl (congrArg iR (?_ : _ = _)))))))))
  first | omega | rfl
 ·have d1 := of_decide_eq_false h1
  refine ev_skip (et (sq (rg (xf ttOk rfl rfl (xl ttOk rfl rfl (xm rfl rfl ?_))))))
  first | refine evl_call (nm := 14) (cf rfl) (h_disk t.a _ _ om om ‹_›) (rs_of rfl) rfl rfl rfl ?_ | refine evl_call (nm := 14) (cf rfl) (h_disk t.b _ _ om om ‹_›) (rs_of rfl) rfl rfl rfl ?_
  refine xs rfl rfl (nl (et (sq (sq (rg (xm rfl rfl (xb ttOk rfl rfl (nl (et (ev_cond rfl (fun h2 => ?_) (fun h2 => ?_)))))))))))
  ·have d2 := of_decide_eq_true h2
   refine sq (rg (xs rfl rfl (nl (et (ev_ret (evr_then (ret_pure' ttOk rfl rfl (congrArg iR (?_ : _ = _)))))))))
   first | omega | rfl
  ·have d2 := of_decide_eq_false h2
   refine ev_skip (et (sq (rg (xm rfl rfl (xs rfl rfl (nl (et (ev_ret (ret_pure' ttOk rfl rfl (congrArg iR (?_ : _ = _)))))))))))
   first | omega | rfl
theorem h_head (m : Nat) (x1 x2 x3 q q2 : Int) (hq : q2 = q) (h : 0 ≤ q ∧ q + (3 * m : Nat) ≤ 2199023255552) : Pure Tryz.prog 79 [many [iC x1, iC x2, iC x3, .s 3 (mk3 q m)], one (iC q2)] (iR (q + (3 * m : Nat))) := by
 refine pure_intro (N := 12) Tryz.func79 rfl rfl rfl rfl (fun H w => ?_)
 refine sq (rg (evl_e (e_box rfl rfl rfl rfl) (xs rfl rfl (nl (et (sq (rg (xf ttOk rfl rfl (xl ttOk rfl rfl (xm rfl rfl (evl_call (nm := 8) (cf rfl) (h_marks _ _ _ om om) (rs_of rfl) rfl rfl rfl (xs rfl rfl (nl (et (sq (sq (rg (xm rfl rfl (xb ttOk rfl rfl (nl (et (ev_cond rfl (fun h1 => ?_) (fun h1 => ?_)))))))))))))))))))))))
 ·have d1 := of_decide_eq_true h1
  refine sq (rg (xs rfl rfl (nl (et (ev_ret (evr_then (ret_pure' ttOk rfl rfl (congrArg iR (?_ : _ = _)))))))))
  first | omega | rfl
 ·have d1 := of_decide_eq_false h1
  refine ev_skip (et (sq (rg (xm rfl rfl (xs rfl rfl (nl (et (ev_ret (ret_pure' ttOk rfl rfl (congrArg iR (?_ : _ = _)))))))))))
  first | omega | rfl
theorem sumN_lenS : ∀ W : List (Int × List Int), sumN lenS W = W.length + sumN (fun x => x.2.length) W
 | [] => rfl
 | x :: W => by
  have := sumN_lenS W
  simp only [sumN, List.map_cons, List.sum_cons, List.length_cons, lenS] at *
  omega
theorem smD_of {d : Disk} (h : diskN d ≤ 1048576) : smD d := by
 have := sumN_lenS d.wait
 unfold diskN rowsN writesN at h
 exact ⟨by omega, by omega, by unfold mkN; omega⟩
theorem smT_of {t : Two} (h : twoN t ≤ 1048576) : smT t := ⟨smD_of (by unfold twoN at h; omega), smD_of (by unfold twoN at h; omega)⟩
end Go.Proofs.YtinmcdcmidlgpaaGreatDoor
