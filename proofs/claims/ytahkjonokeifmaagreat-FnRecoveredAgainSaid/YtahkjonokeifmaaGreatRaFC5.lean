/- Walks of functions of the program, printed by a program of the prover. -/
import Derived.Test.YtahkjonokeifmaaGreatRaFC4
namespace Go.Proofs.YtahkjonokeifmaaGreat.Cur
open Go.ChangeShapes Go.WideShapes Go.ChangeAt Go.RowKit
set_option linter.unusedVariables false
set_option linter.unusedSimpArgs false
set_option maxHeartbeats 1000000
set_option maxRecDepth 100000
attribute [local irreducible] EvL Ev EvE Quiet Eff Pure RDk RDb RDo
theorem c_l4Draw  : Rolls Tryz.prog 108 114 [] (α := Two) (fun _ => True) (fun t => [many' (twoR (t))]) := by
 refine rolls_intro (N := 60) Tryz.func114 rfl rfl rfl rfl (fun H w g v0 bn δ0 hsrc => ?_)
 refine sq (rg (evl_e (e_alloc ttOk rfl rfl rfl rfl) (nl (et (sq (rg (xm rfl rfl (evl_roll (nm := 6) (cf rfl) (c_l1Below _) rfl rfl hsrc (rs_of rfl) (fun _ => rfl) (fun yd δ1 r1 => ?_)))))))))
 refine rlk rfl rfl rfl ?_
 obtain ⟨r1a, r1b⟩ := r1
 refine xa rfl rfl rfl om rfl (evl_call (nm := 8) (cf rfl) (c_NewTwo _) (rs_of rfl) rfl rfl rfl (evl_e (e_alloc ttOk rfl rfl rfl rfl) (xst ttOk rfl rfl (nl (et (sq (sq (rg (xm rfl rfl (evl_roll (nm := 10) (cf rfl) (c_l1Below _) rfl rfl hsrc (rs_of rfl) (fun _ => rfl) (fun ym δ2 r2 => ?_)))))))))))
 refine rlk rfl rfl rfl ?_
 obtain ⟨r2a, r2b⟩ := r2
 obtain ⟨m, rfl⟩ := Int.eq_ofNat_of_zero_le r2a
 have hm := r2b om
 refine xs rfl rfl (nl (et (ev_blk (ev_loop (fun i : Nat × Int × Two × DS bn => (⟨[(0, pbV 0 0), (2, pbV 2 0), (3, pbV 3 0), (4, iV i.2.1)], [(0, 108, diceA v0 i.2.2.2), (2, 32, [.c .nil, .c .nil, .c .nil, .c .nil]), (3, 32, [.rt 101, .rt 102, .rt 103, .rt 104])], [(101, 45, 1, (i.2.2.1.a.kept.map fun r => [ints r])), (102, 103, 2, (i.2.2.1.a.wait.map fun x => [iC x.1, ints x.2])), (103, 45, 1, (i.2.2.1.b.kept.map fun r => [ints r])), (104, 103, 2, (i.2.2.1.b.wait.map fun x => [iC x.1, ints x.2]))], []⟩ : St)) (fun i => i.2.1 = (m : Int) - i.1 ∧ i.1 ≤ m) (fun i => m - i.1) (0, m, newTwoF (1 + yd), δ2) [(101, 8), (102, 1008), (103, 2008), (104, 3008)] (⟨by simp, by simp⟩) ⟨trf, trf, ⟨⟨_, rfl, by rfl⟩, ⟨_, rfl, by rfl⟩, ⟨_, rfl, by rfl⟩, ⟨_, rfl, by rfl⟩, trivial⟩, tre, rfl⟩ ?_))))
 intro i hp
 obtain ⟨k, z, t, δ⟩ := i
 have hp : z = (m : Int) - k ∧ k ≤ m := hp
 obtain ⟨p0, p1⟩ := hp
 show Ev _ _ _ _ (⟨[(0, pbV 0 0), (2, pbV 2 0), (3, pbV 3 0), (4, iV z)], [(0, 108, diceA v0 δ), (2, 32, [.c .nil, .c .nil, .c .nil, .c .nil]), (3, 32, [.rt 101, .rt 102, .rt 103, .rt 104])], [(101, 45, 1, (t.a.kept.map fun r => [ints r])), (102, 103, 2, (t.a.wait.map fun x => [iC x.1, ints x.2])), (103, 45, 1, (t.b.kept.map fun r => [ints r])), (104, 103, 2, (t.b.wait.map fun x => [iC x.1, ints x.2]))], []⟩ : St)
 refine sq (sq (rg (xm rfl rfl (xb ttOk rfl rfl (nl (et (ev_cond rfl (fun h3 => ?_) (fun h3 => ?_))))))))
 ·try have d3 := of_decide_eq_true h3
  refine ev_skip (et (sq (ev_blk (sq (ev_drawd [13] g mo (rdd_take 0 0 0 rfl kr trivial rfl rfl rfl rfl (q_load ttOk rfl) rfl rfl (rdd_pure 1 rfl kr trivial (qw_move rfl) rfl (rdd_pure 2 rfl kr trivial (qw_fieldAddr ttOk rfl) rfl (rdd_pure 3 rfl kr trivial (qw_fieldAddr ttOk rfl) rfl (rdd_take 0 0 4 rfl kr trivial rfl rfl rfl rfl (q_load ttOk rfl) rfl rfl (rdd_take 0 0 5 rfl kr trivial rfl rfl rfl rfl (q_len_rtm ttOk rfl rfl rfl) rfl rfl (rdd_pure 7 rfl kr trivial (qw_move rfl) rfl (rdd_1 6 kr (rddo_roll (nm := 22) 0 rfl trivial rfl rfl (cf rfl) (c_l1Below _) rfl rfl hsrc (rs_of rfl) (fun _ => rfl) (fun yx δ4 r4 => ?_)))))))))))))))
  refine rdk rfl rfl rfl ?_
  obtain ⟨r4a, r4b⟩ := r4
  refine rdd_1 8 kr (rddo_roll (nm := 24) 0 rfl trivial rfl rfl (cf rfl) c_l1DrawRow rfl rfl hsrc (rs_of rfl) (fun _ => rfl) (fun F δ5 r5 => ?_))
  refine rdk rfl rfl rfl (rdd_1 9 kr (rddo_call (nm := 25) rfl trivial (cf rfl) (c_BothWrote t yx F) (rs_of rfl) rfl rfl rfl (rdd_pure 10 rfl kr trivial (qw_move rfl) rfl (rdd_pure 11 rfl kr trivial (qw_ext rfl) rfl (rdd_pure 12 rfl kr trivial (qw_ext rfl) rfl (rdd_1 13 kr (rddo_brk rfl kr trivial (e_store ttOk rfl) (rdd_endq kr (et (sq (rg (xm rfl rfl (evl_roll (nm := 29) (cf rfl) (c_l1Below _) rfl rfl hsrc (rs_of rfl) (fun _ => rfl) (fun x6 δ6 r6 => ?_))))))))))))))
  refine rlk rfl rfl rfl ?_
  obtain ⟨r6a, r6b⟩ := r6
  refine nl (et (ev_blk (sq (rg (xb ttOk rfl rfl (xs rfl rfl (nl (et (ev_cond rfl (fun h7 => ?_) (fun h7 => ?_))))))))))
  ·try have d7 := of_decide_eq_true h7
   refine rg (xl ttOk rfl rfl (evl_call (nm := 33) (cf rfl) (c_BothSynced (bothWroteF t yx F).1) (rs_of rfl) rfl rfl rfl (xst ttOk rfl rfl (nl (eb (eb (et (rg (xm rfl rfl (xa rfl rfl rfl om rfl (xs rfl rfl (nl (eve_round (k + 1, z - 1, bothSyncF (bothWroteF t yx F).1, δ6) [(101, 33), (102, 1033), (103, 2033), (104, 3033)] ?hp ⟨trf, trf, ⟨⟨_, rfl, by rfl⟩, ⟨_, rfl, by rfl⟩, ⟨_, rfl, by rfl⟩, ⟨_, rfl, by rfl⟩, trivial⟩, tre, rfl⟩)))))))))))))
   case hp => exact ⟨⟨by dsimp only; omega, by omega⟩, by omega⟩
  ·try have d7 := of_decide_eq_false h7
   refine sq (rg (xb ttOk rfl rfl (xs rfl rfl (nl (et (ev_cond rfl (fun h8 => ?_) (fun h8 => ?_)))))))
   ·try have d8 := of_decide_eq_true h8
    refine ev_drawd [4] g mo (rdd_take 0 0 0 rfl kr trivial rfl rfl rfl rfl (q_load ttOk rfl) rfl rfl (rdd_pure 1 rfl kr trivial (qw_move rfl) rfl (rdd_1 2 kr (rddo_roll (nm := 38) 0 rfl trivial rfl rfl (cf rfl) c_l3DrawFates rfl rfl hsrc (rs_of rfl) (fun _ => rfl) (fun G δ9 r9 => ?_)))))
    refine rdk rfl rfl rfl ?_
    have hG : G.length ≤ 1048576 := by have := r9; omega
    refine rdd_1 3 kr (rddo_call (nm := 39) rfl trivial (cf rfl) (c_BothFallen (bothWroteF t yx F).1 G hG) (rs_of rfl) rfl rfl rfl (rdd_1 4 kr (rddo_brk rfl kr trivial (e_store ttOk rfl) (rdd_endq kr (eb (eb (et (rg (xm rfl rfl (xa rfl rfl rfl om rfl (xs rfl rfl (nl (eve_round (k + 1, z - 1, bothFallenF (bothWroteF t yx F).1 G, δ9) [(101, 39), (102, 1039), (103, 2039), (104, 3039)] ?hp ⟨trf, trf, ⟨⟨_, rfl, by rfl⟩, ⟨_, rfl, by rfl⟩, ⟨_, rfl, by rfl⟩, ⟨_, rfl, by rfl⟩, trivial⟩, tre, rfl⟩)))))))))))))
    case hp => exact ⟨⟨by dsimp only; omega, by omega⟩, by omega⟩
   ·try have d8 := of_decide_eq_false h8
    refine sq (rg (xb ttOk rfl rfl (xs rfl rfl (nl (et (ev_cond rfl (fun h10 => ?_) (fun h10 => ?_)))))))
    ·try have d10 := of_decide_eq_true h10
     refine ev_drawd [17] g mo (rdd_pure 0 rfl kr trivial (qw_fieldAddr ttOk rfl) rfl (rdd_take 0 0 1 rfl kr trivial rfl rfl rfl rfl (q_load ttOk rfl) rfl rfl (rdd_pure 2 rfl kr trivial (qw_move rfl) rfl (rdd_pure 3 rfl kr trivial (qw_fieldAddr ttOk rfl) rfl (rdd_pure 4 rfl kr trivial (qw_fieldAddr ttOk rfl) rfl (rdd_take 0 0 5 rfl kr trivial rfl rfl rfl rfl (q_load ttOk rfl) rfl rfl (rdd_take 0 0 6 rfl kr trivial rfl rfl rfl rfl (q_len_rtm ttOk rfl rfl rfl) rfl rfl (rdd_pure 8 rfl kr trivial (qw_move rfl) rfl (rdd_pure 10 rfl kr trivial (qw_move rfl) rfl (rdd_1 7 kr (rddo_roll (nm := 50) 0 rfl trivial rfl rfl (cf rfl) (c_l1Below _) rfl rfl hsrc (rs_of rfl) (fun _ => rfl) (fun ya δ11 r11 => ?_))))))))))))
     refine rdk rfl rfl rfl ?_
     obtain ⟨r11a, r11b⟩ := r11
     refine rdd_1 9 kr (rddo_roll (nm := 52) 0 rfl trivial rfl rfl (cf rfl) (c_l1Below _) rfl rfl hsrc (rs_of rfl) (fun _ => rfl) (fun yb δ12 r12 => ?_))
     refine rdk rfl rfl rfl ?_
     obtain ⟨r12a, r12b⟩ := r12
     refine rdd_1 11 kr (rddo_roll (nm := 54) 0 rfl trivial rfl rfl (cf rfl) (c_l1Below _) rfl rfl hsrc (rs_of rfl) (fun _ => rfl) (fun yc δ13 r13 => ?_))
     refine rdk rfl rfl rfl ?_
     obtain ⟨r13a, r13b⟩ := r13
     refine rdd_1 12 kr (rddo_call (nm := 55) rfl trivial (cf rfl) (c_Rotted (bothWroteF t yx F).1.b ya yb yc) (rs_of rfl) rfl rfl rfl (rdd_pure 13 rfl kr trivial (qw_move rfl) rfl (rdd_pure 14 rfl kr trivial (qw_ext rfl) rfl (rdd_pure 15 rfl kr trivial (qw_ext rfl) rfl (rdd_pure 16 rfl kr trivial (qw_fieldAddr ttOk rfl) rfl (rdd_1 17 kr (rddo_brk rfl kr trivial (e_store ttOk rfl) (rdd_endq kr (eb (eb (et (rg (xm rfl rfl (xa rfl rfl rfl om rfl (xs rfl rfl (nl (eve_round (k + 1, z - 1, ⟨(bothWroteF t yx F).1.a, (rottedF (bothWroteF t yx F).1.b ya yb yc).1⟩, δ13) [(101, 25), (102, 1025), (103, 55), (104, 1055)] ?hp ⟨trf, trf, ⟨⟨_, rfl, by rfl⟩, ⟨_, rfl, by rfl⟩, ⟨_, rfl, by rfl⟩, ⟨_, rfl, by rfl⟩, trivial⟩, tre, rfl⟩)))))))))))))))))
     case hp => exact ⟨⟨by dsimp only; omega, by omega⟩, by omega⟩
    ·try have d10 := of_decide_eq_false h10
     refine ev_skip (eb (eb (et (rg (xm rfl rfl (xa rfl rfl rfl om rfl (xs rfl rfl (nl (eve_round (k + 1, z - 1, (bothWroteF t yx F).1, δ6) [(101, 25), (102, 1025), (103, 2025), (104, 3025)] ?hp ⟨trf, trf, ⟨⟨_, rfl, by rfl⟩, ⟨_, rfl, by rfl⟩, ⟨_, rfl, by rfl⟩, ⟨_, rfl, by rfl⟩, trivial⟩, tre, rfl⟩)))))))))
     case hp => exact ⟨⟨by dsimp only; omega, by omega⟩, by omega⟩
 ·try have d3 := of_decide_eq_false h3
  refine ev_exit (evx_then (evx_then (evx_hit (et (sq (rg (xl ttOk rfl rfl (xst ttOk rfl rfl (nl (et (ev_ret (ret_roll t δ ttOk rfl rfl rfl rfl ?_ ?_))))))))))))
  ·simp [RpLe, L2, RcLe]
  ·trivial
theorem c_l4DrawAny : RollsF Tryz.prog 108 74 (α := Two) (fun _ => True) twoC := by
 refine rollsF_intro (N := 12) Tryz.func74 rfl rfl rfl (fun H w g v0 bn δ0 hsrc => ?_)
 refine sq (rg (evl_e (e_alloc ttOk rfl rfl rfl rfl) (nl (et (sq (rg (xm rfl rfl (evl_roll (nm := 5) (cf rfl) c_l4Draw rfl rfl hsrc (rs_of rfl) (fun _ => rfl) (fun t δ1 r1 => ?_)))))))))
 refine rlk rfl rfl rfl (evl_e (e_alloc ttOk rfl rfl rfl rfl) (xst ttOk rfl rfl (nl (et (sq (sq (rg (xm rfl rfl (evl_roll (nm := 7) (cf rfl) (c_l1Once _) rfl rfl hsrc (rs_of rfl) (fun _ => rfl) (fun x2 δ2 r2 => ?_))))))))))
 refine rlk rfl rfl rfl (nl (et (ev_cond rfl (fun h3 => ?_) (fun h3 => ?_))))
 ·try have d3 := of_decide_eq_true h3
  refine rg (xm rfl rfl (evl_rollF (cf rfl) c_l3DrawAny rfl rfl hsrc rfl (fun d δF H1 _ hE1 => ⟨_, rfl, ?_⟩)))
  have hsrc := hsrc.mono hE1.1
  refine xf ttOk rfl rfl (xst ttOk rfl rfl (nl (et (sq (ev_le (S' := ⟨[(0, pbV 0 0), (2, pbV 2 0), (3, pbV 3 0)], [(0, 108, diceA v0 δF), (2, 32, [.c .nil, .c .nil, .c .nil, .c .nil]), (3, 32, [.rt 5, .rt 1005, .c (rows d.kept), .c (writes d.wait)])], [(5, 45, 1, (t.a.kept.map fun r => [ints r])), (1005, 103, 2, (t.a.wait.map fun x => [iC x.1, ints x.2]))], []⟩) [] ⟨trf, trf, ⟨⟨_, rfl, by first | rfl | simp⟩, ⟨_, rfl, by first | rfl | simp⟩, trivial⟩, tre, rfl⟩ ?_)))))
  refine ev_frsB 5 rfl (fun H2 hE2 => ?_)
  have hsrc := hsrc.mono hE2.1
  refine ev_frsB 1005 rfl (fun H3 hE3 => ?_)
  have hsrc := hsrc.mono hE3.1
  refine ev_le (S' := ⟨[(0, pbV 0 0), (2, pbV 2 0), (3, pbV 3 0)], [(0, 108, diceA v0 δF), (2, 32, [.c .nil, .c .nil, .c .nil, .c .nil]), (3, 32, [.c (rows t.a.kept), .c (writes t.a.wait), .c (rows d.kept), .c (writes d.wait)])], [], []⟩) [] lei ?_
  refine rg (xl ttOk rfl rfl (xst ttOk rfl rfl (nl (et (ev_ret ?_)))))
  exact ret_rollF ⟨t.a, d⟩ δF ((hE1.trans hE2).trans hE3) ttOk rfl rfl rfl rfl trivial
 ·try have d3 := of_decide_eq_false h3
  refine ev_skip (et (sq (ev_le (S' := ⟨[(0, pbV 0 0), (2, pbV 2 0), (3, pbV 3 0)], [(0, 108, diceA v0 δ2), (2, 32, [.c .nil, .c .nil, .c .nil, .c .nil]), (3, 32, [.rt 5, .rt 1005, .rt 2005, .rt 3005])], [(5, 45, 1, (t.a.kept.map fun r => [ints r])), (1005, 103, 2, (t.a.wait.map fun x => [iC x.1, ints x.2])), (2005, 45, 1, (t.b.kept.map fun r => [ints r])), (3005, 103, 2, (t.b.wait.map fun x => [iC x.1, ints x.2]))], []⟩) [] ⟨trf, trf, ⟨⟨_, rfl, by first | rfl | simp⟩, ⟨_, rfl, by first | rfl | simp⟩, ⟨_, rfl, by first | rfl | simp⟩, ⟨_, rfl, by first | rfl | simp⟩, trivial⟩, tre, rfl⟩ ?_)))
  refine ev_frsB 5 rfl (fun H1 hE1 => ?_)
  have hsrc := hsrc.mono hE1.1
  refine ev_frsB 1005 rfl (fun H2 hE2 => ?_)
  have hsrc := hsrc.mono hE2.1
  refine ev_frsB 2005 rfl (fun H3 hE3 => ?_)
  have hsrc := hsrc.mono hE3.1
  refine ev_frsB 3005 rfl (fun H4 hE4 => ?_)
  have hsrc := hsrc.mono hE4.1
  refine ev_le (S' := ⟨[(0, pbV 0 0), (2, pbV 2 0), (3, pbV 3 0)], [(0, 108, diceA v0 δ2), (2, 32, [.c .nil, .c .nil, .c .nil, .c .nil]), (3, 32, [.c (rows t.a.kept), .c (writes t.a.wait), .c (rows t.b.kept), .c (writes t.b.wait)])], [], []⟩) [] lei ?_
  refine rg (xl ttOk rfl rfl (xst ttOk rfl rfl (nl (et (ev_ret ?_)))))
  exact ret_rollF t δ2 (((hE1.trans hE2).trans hE3).trans hE4) ttOk rfl rfl rfl rfl trivial
theorem c_KeptHeadA (t : Two) (h : Head) : Pure Tryz.prog 101 [many (twoC t), many (headC h)] [many' (twoR ((keptHeadF t h).1)), one' (RC.v (.bool ((keptHeadF t h).2)))] := by
 refine pure_intro (N := 24) Tryz.func101 rfl rfl rfl rfl (fun H w => ?_)
 refine sq (rg (evl_e (e_box rfl rfl rfl rfl) (evl_e (e_box rfl rfl rfl rfl) (evl_e (e_alloc ttOk rfl rfl rfl rfl) (xs rfl rfl (nl (et (sq (sq (rg (xl ttOk rfl rfl (evl_call (nm := 7) (cf rfl) (c_KeptOk t) (rs_of rfl) rfl rfl rfl (xo (q_not rfl) rfl (nl (et (ev_cond_n rfl (fun h1 => ?_) (fun h1 => ?_)))))))))))))))))
 ·refine sq (rg (xo (q_build ttOk rfl) rfl (xst ttOk rfl rfl (xs rfl rfl (nl (et (ev_ret (evr_then (ret_pureN ttOk rfl rfl ?_)))))))))
  first
  | (rw [kh_no ‹_›]; simp [RpLe, L2, RcLe, zeroD, zeroT]; done)
  | (rw [kh_yes ‹_› ‹_›]; simp [RpLe, L2, RcLe]; done)
  | (rw [show keptHeadF t h = (t, false) by simp_all [keptHeadF]]; simp [RpLe, L2, RcLe]; done)
  | (exfalso; simp_all; done)
 ·refine ev_skip (et (sq (sq (rg (xl ttOk rfl rfl (evl_call (nm := 11) (cf rfl) (c_HeadOk h) (rs_of rfl) rfl rfl rfl (xo (q_not rfl) rfl (nl (et (ev_cond_n rfl (fun h2 => ?_) (fun h2 => ?_)))))))))))
  ·refine sq (rg (xl ttOk rfl rfl (evl_call (nm := 14) (cf rfl) (c_l4Copy t (keptOk_iff.1 ‹_›).1) (rs_of rfl) rfl rfl rfl (xst ttOk rfl rfl (xs rfl rfl (nl (et (ev_ret (evr_then (ret_pureN ttOk rfl rfl ?_))))))))))
   first
   | (rw [kh_no ‹_›]; simp [RpLe, L2, RcLe, zeroD, zeroT]; done)
   | (rw [kh_yes ‹_› ‹_›]; simp [RpLe, L2, RcLe]; done)
   | (rw [show keptHeadF t h = (t, false) by simp_all [keptHeadF]]; simp [RpLe, L2, RcLe]; done)
   | (exfalso; simp_all; done)
  ·have hhd := head_bd h2
   refine ev_skip (et (sq (ev_drawq [9] mo (rk0 0 rfl (q_load ttOk rfl) rfl (rk0 1 rfl (q_fieldAddr ttOk rfl) rfl (rk0 2 rfl (q_load ttOk rfl) rfl (rk0 3 rfl (q_rem_pos rfl rfl om) rfl (rk0 4 rfl (q_load ttOk rfl) rfl (rdk_one 5 kr (rdo_call (nm := 20) rfl trivial (cf rfl) (c_HeadRow h) (rs_of rfl) rfl rfl rfl (rdk_one 6 kr (rdo_call (nm := 21) rfl trivial (cf rfl) (c_BothWrote t (h.num % 2) (headRowF h)) (rs_of rfl) rfl rfl rfl (rk0 7 rfl (q_ext rfl) rfl (rk0 8 rfl (q_ext rfl) rfl (rdk_one 9 kr (rdo_brk rfl rfl trivial (e_store ttOk rfl) (rdb_q 10 rfl kr trivial (q_assign rfl) rfl (rdb_endq kr (et (ev_ret (ret_pureN ttOk rfl rfl ?_)))))))))))))))))))))
   first
   | (rw [kh_no ‹_›]; simp [RpLe, L2, RcLe, zeroD, zeroT]; done)
   | (rw [kh_yes ‹_› ‹_›]; simp [RpLe, L2, RcLe]; done)
   | (rw [show keptHeadF t h = (t, false) by simp_all [keptHeadF]]; simp [RpLe, L2, RcLe]; done)
   | (exfalso; simp_all; done)
theorem c_KeptEntryA (t : Two) (e : Entry) : Pure Tryz.prog 108 [many (twoC t), many (entryC e)] [many' (twoR ((keptEntryF t e).1)), one' (RC.v (.bool ((keptEntryF t e).2)))] := by
 refine pure_intro (N := 24) Tryz.func108 rfl rfl rfl rfl (fun H w => ?_)
 refine sq (rg (evl_e (e_box rfl rfl rfl rfl) (evl_e (e_box rfl rfl rfl rfl) (evl_e (e_alloc ttOk rfl rfl rfl rfl) (xs rfl rfl (nl (et (sq (sq (rg (xl ttOk rfl rfl (evl_call (nm := 7) (cf rfl) (c_KeptOk t) (rs_of rfl) rfl rfl rfl (xo (q_not rfl) rfl (nl (et (ev_cond_n rfl (fun h1 => ?_) (fun h1 => ?_)))))))))))))))))
 ·refine sq (rg (xo (q_build ttOk rfl) rfl (xst ttOk rfl rfl (xs rfl rfl (nl (et (ev_ret (evr_then (ret_pureN ttOk rfl rfl ?_)))))))))
  first
  | (rw [ke_no ‹_›]; simp [RpLe, L2, RcLe, zeroD, zeroT]; done)
  | (rw [ke_yes ‹_› ‹_›]; simp [RpLe, L2, RcLe]; done)
  | (rw [show keptEntryF t e = (t, false) by simp_all [keptEntryF]]; simp [RpLe, L2, RcLe]; done)
  | (exfalso; simp_all; done)
 ·refine ev_skip (et (sq (sq (rg (xl ttOk rfl rfl (evl_call (nm := 11) (cf rfl) (c_EntryOk e) (rs_of rfl) rfl rfl rfl (xo (q_not rfl) rfl (nl (et (ev_cond_n rfl (fun h2 => ?_) (fun h2 => ?_)))))))))))
  ·refine sq (rg (xl ttOk rfl rfl (evl_call (nm := 14) (cf rfl) (c_l4Copy t (keptOk_iff.1 ‹_›).1) (rs_of rfl) rfl rfl rfl (xst ttOk rfl rfl (xs rfl rfl (nl (et (ev_ret (evr_then (ret_pureN ttOk rfl rfl ?_))))))))))
   first
   | (rw [ke_no ‹_›]; simp [RpLe, L2, RcLe, zeroD, zeroT]; done)
   | (rw [ke_yes ‹_› ‹_›]; simp [RpLe, L2, RcLe]; done)
   | (rw [show keptEntryF t e = (t, false) by simp_all [keptEntryF]]; simp [RpLe, L2, RcLe]; done)
   | (exfalso; simp_all; done)
  ·have he : entryOk e = true := h2
   have hix := entry_ix he
   refine ev_skip (et (sq (ev_drawq [9] mo (rk0 0 rfl (q_load ttOk rfl) rfl (rk0 1 rfl (q_fieldAddr ttOk rfl) rfl (rk0 2 rfl (q_load ttOk rfl) rfl (rk0 4 rfl (q_load ttOk rfl) rfl (rdk_one 3 kr (rdo_call (nm := 18) rfl trivial (cf rfl) (c_SlotOf2 e.index (inB_iff.2 hix)) (rs_of rfl) rfl rfl rfl (rdk_one 5 kr (rdo_call (nm := 20) rfl trivial (cf rfl) (c_SlotRow e he) (rs_of rfl) rfl rfl rfl (rdk_one 6 kr (rdo_call (nm := 21) rfl trivial (cf rfl) (c_BothWrote t (slotF e.index) (slotRowF e)) (rs_of rfl) rfl rfl rfl (rk0 7 rfl (q_ext rfl) rfl (rk0 8 rfl (q_ext rfl) rfl (rdk_one 9 kr (rdo_brk rfl rfl trivial (e_store ttOk rfl) (rdb_q 10 rfl kr trivial (q_assign rfl) rfl (rdb_endq kr (et (ev_ret (ret_pureN ttOk rfl rfl ?_))))))))))))))))))))))
   first
   | (rw [ke_no ‹_›]; simp [RpLe, L2, RcLe, zeroD, zeroT]; done)
   | (rw [ke_yes ‹_› ‹_›]; simp [RpLe, L2, RcLe]; done)
   | (rw [show keptEntryF t e = (t, false) by simp_all [keptEntryF]]; simp [RpLe, L2, RcLe]; done)
   | (exfalso; simp_all; done)
theorem so_small (es : List Entry) : (seenOverF [] es).1.length ≤ 4 := by
 cases h1 : overL [] es with
 | none => rw [so3 kr h1]; simp
 | some c =>
  have hc : c.length ≤ 4 := so_len (sok_of kr) h1
  unfold seenOverF
  split
  ·split
   ·rw [h1]; exact hc
   ·simp
  ·simp
theorem mark_seq (l : List Mark) (c : Int) : 0 ≤ (if seenOk l = true then findM l c else noMark).seq ∧ (if seenOk l = true then findM l c else noMark).seq ≤ 2000 := by
 split
 ·rename_i h
  have := find_seq (sok_of h) c
  omega
 ·decide
theorem c_SeenOverN (es : List Entry) : Pure Tryz.prog 128 [one .nil, one (entries es)] [one' (marksR (seenOverF [] es).1), one' (RC.v (.bool (seenOverF [] es).2))] := pure_nil (c_SeenOver [] es)
theorem c_l10DrawHead  : Rolls Tryz.prog 108 100 [] (α := Head) (fun h => 0 ≤ h.num ∧ h.num ≤ 10 ∧ 0 ≤ h.base ∧ h.base ≤ 10 ∧ h.seen.length ≤ 4) (fun h => [many' (headR h)]) := by
 refine rolls_intro (N := 43) Tryz.func100 rfl rfl rfl rfl (fun H w g v0 bn δ0 hsrc => ?_)
 refine sq (rg (evl_e (e_alloc ttOk rfl rfl rfl rfl) (nl (et (sq (rg (xm rfl rfl (evl_roll (nm := 8) (cf rfl) (c_l1Below _) rfl rfl hsrc (rs_of rfl) (fun _ => rfl) (fun yb δ1 r1 => ?_)))))))))
 refine rlk rfl rfl rfl ?_
 obtain ⟨r1a, r1b⟩ := r1
 refine xs rfl rfl (nl (et (sq (sq (rg (xm rfl rfl (xb ttOk rfl rfl (nl (et (ev_cond rfl (fun h2 => ?_) (fun h2 => ?_)))))))))))
 ·try have d2 := of_decide_eq_true h2
  refine sq (rg (xo (q_build ttOk rfl) rfl (xst ttOk rfl rfl (nl (et (ev_ret (evr_then (ret_roll ⟨0, 0, 0, []⟩ δ1 ttOk rfl rfl rfl rfl ?_ ?_))))))))
  ·simp [RpLe, L2, RcLe]
  ·exact ⟨by show (0 : Int) ≤ 0; omega, by show (0 : Int) ≤ 10; omega, by show (0 : Int) ≤ 0; omega, by show (0 : Int) ≤ 10; omega, by simp⟩
 ·try have d2 := of_decide_eq_false h2
  refine ev_skip (et (sq (rg (xm rfl rfl (xm rfl rfl (evl_call (nm := 14) (cf rfl) (c_l1Min _ _) (rs_of rfl) rfl rfl rfl (evl_roll (nm := 15) (cf rfl) (c_l1Below _) rfl rfl hsrc (rs_of rfl) (fun _ => rfl) (fun yq δ3 r3 => ?_))))))))
  refine rlk rfl rfl rfl ?_
  obtain ⟨r3a, r3b⟩ := r3
  refine xa rfl rfl rfl om rfl (xs rfl rfl (nl (et (sq (rg (xm rfl rfl (xm rfl rfl (xm rfl rfl (xa rfl rfl rfl om rfl (xa rfl rfl rfl om rfl (xm rfl rfl (evl_roll (nm := 23) (cf rfl) (c_l7DrawList (yb - (1 + yq) + 1) (1 + yq) (1 + yq).toNat om om ⟨by omega, by omega⟩) rfl rfl hsrc (rs_of rfl) (fun _ => rfl) (fun es δ4 r4 => ?_)))))))))))))
  refine rlk rfl rfl rfl ?_
  obtain ⟨hel, hei⟩ := r4
  refine xs rfl rfl (nl (et (sq (ev_drawd [13] g mo (rdd_pure 0 rfl kr trivial (qw_move rfl) rfl (rdd_pure 1 rfl kr trivial (qw_move rfl) rfl (rdd_pure 2 rfl kr trivial (qw_ar rfl rfl rfl om) rfl (rdd_pure 4 rfl kr trivial (qw_move rfl) rfl (rdd_pure 5 rfl kr trivial (qw_move rfl) rfl (rdd_pure 6 rfl kr trivial (qw_move rfl) rfl (rdd_pure 7 rfl kr trivial (qw_ar rfl rfl rfl om) rfl (rdd_take 0 0 8 rfl kr trivial rfl rfl rfl rfl (q_ix_rt (m := yq.toNat) ttOk rfl rfl rfl rfl rfl om (by simp; omega)) rfl rfl (rdd_pure 9 rfl kr trivial (qw_fieldAddr ttOk rfl) rfl (rdd_take 0 0 10 rfl kr trivial rfl rfl rfl rfl (q_load_pr ttOk rfl rfl rfl rfl (get_map om) rfl rfl) rfl rfl (rdd_2 3 12 kr ?_ ?_)))))))))))))))
  ·refine rddo_roll (nm := 27) 0 rfl trivial rfl rfl (cf rfl) (c_l1Below _) rfl rfl hsrc (rs_of rfl) (fun _ => rfl) (fun yn δ5 r5 => ?_)
   refine rdk rfl rfl rfl ?_
   obtain ⟨r5a, r5b⟩ := r5
   refine rdd_take 0 0 11 rfl kr trivial rfl rfl rfl rfl (q_build ttOk rfl) rfl rfl (rdd_1 12 kr (rddo_new rfl trivial (e_alloc ttOk rfl rfl rfl rfl) (rdd_1 13 kr (rddo_brk rfl kr trivial (e_store ttOk rfl) (rdd_endq kr (et (sq (rg (xm rfl rfl (evl_call (nm := 38) (cf rfl) (c_SeenOverN es) (rs_of rfl) rfl rfl rfl (xm rfl rfl (xo (q_ext rfl) rfl (xo (q_ext rfl) rfl (xf ttOk rfl rfl (xst ttOk rfl rfl (nl (et (sq (rg (xl ttOk rfl rfl (xst ttOk rfl rfl (nl (et (ev_ret (ret_roll ⟨yn, yb, (es[yq.toNat]'om).time, (seenOverF [] es).1⟩ δ5 ttOk rfl rfl rfl rfl ?_ ?_)))))))))))))))))))))))))
   ·simp [RpLe, L2, RcLe]
   ·exact ⟨by show 0 ≤ yn; omega, by show yn ≤ 10; omega, by show 0 ≤ yb; omega, by show yb ≤ 10; omega, so_small es⟩
  ·refine rddo_new rfl trivial (e_alloc ttOk rfl rfl rfl rfl) (rdd_1 3 kr (rddo_roll (nm := 27) 0 rfl trivial rfl rfl (cf rfl) (c_l1Below _) rfl rfl hsrc (rs_of rfl) (fun _ => rfl) (fun yn δ6 r6 => ?_)))
   refine rdk rfl rfl rfl ?_
   obtain ⟨r6a, r6b⟩ := r6
   refine rdd_take 0 0 11 rfl kr trivial rfl rfl rfl rfl (q_build ttOk rfl) rfl rfl (rdd_1 13 kr (rddo_brk rfl kr trivial (e_store ttOk rfl) (rdd_endq kr (et (sq (rg (xm rfl rfl (evl_call (nm := 38) (cf rfl) (c_SeenOverN es) (rs_of rfl) rfl rfl rfl (xm rfl rfl (xo (q_ext rfl) rfl (xo (q_ext rfl) rfl (xf ttOk rfl rfl (xst ttOk rfl rfl (nl (et (sq (rg (xl ttOk rfl rfl (xst ttOk rfl rfl (nl (et (ev_ret (ret_roll ⟨yn, yb, (es[yq.toNat]'om).time, (seenOverF [] es).1⟩ δ6 ttOk rfl rfl rfl rfl ?_ ?_)))))))))))))))))))))))
   ·simp [RpLe, L2, RcLe]
   ·exact ⟨by show 0 ≤ yn; omega, by show yn ≤ 10; omega, by show 0 ≤ yb; omega, by show yb ≤ 10; omega, so_small es⟩
end Go.Proofs.YtahkjonokeifmaaGreat.Cur
