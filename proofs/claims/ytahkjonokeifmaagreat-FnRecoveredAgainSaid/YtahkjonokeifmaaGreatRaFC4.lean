/- Walks of functions of the program, printed by a program of the prover. -/
import Derived.Test.YtahkjonokeifmaaGreatRaFC3
namespace Go.Proofs.YtahkjonokeifmaaGreat.Cur
open Go.ChangeShapes Go.WideShapes Go.ChangeAt Go.RowKit
set_option linter.unusedVariables false
set_option linter.unusedSimpArgs false
set_option maxHeartbeats 1000000
set_option maxRecDepth 100000
attribute [local irreducible] EvL Ev EvE Quiet Eff Pure RDk RDb RDo
theorem c_Rotted (d : Disk) (x p v : Int) : Pure Tryz.prog 73 [many (diskC d), one (iC x), one (iC p), one (iC v)] [many' (diskR ((rottedF d x p v).1)), one' (RC.v (.bool ((rottedF d x p v).2)))] := by
 refine pure_intro (N := 48) Tryz.func73 rfl rfl rfl rfl (fun H w => ?_)
 refine sq (rg (evl_e (e_box rfl rfl rfl rfl) (evl_e (e_alloc ttOk rfl rfl rfl rfl) (xs rfl rfl (nl (et (sq (sq (rg (xl ttOk rfl rfl (evl_call (nm := 12) (cf rfl) (c_DiskOk d) (rs_of rfl) rfl rfl rfl (xo (q_not rfl) rfl (nl (et (ev_cond_n rfl (fun h1 => ?_) (fun h1 => ?_))))))))))))))))
 ·try (have hp9 := inB_iff.1 (show inB p 0 ((d.kept[x.toNat].length : Int) - 1) = true from h1))
  refine sq (rg (xo (q_build ttOk rfl) rfl (xst ttOk rfl rfl (xs rfl rfl (nl (et (ev_ret (evr_then (ret_pureN ttOk rfl rfl ?_)))))))))
  first
  | (rw [rott_no ‹_›]; simp [RpLe, L2, RcLe, zeroD]; done)
  | (rw [rott_fail ‹_› (rotOk1 ‹_›)]; simp [RpLe, L2, RcLe]; done)
  | (rw [rott_fail ‹_› (rotOk2 hx2 ‹_›)]; simp [RpLe, L2, RcLe]; done)
  | (rw [rott_fail ‹_› (rotOk3 ‹_›)]; simp [RpLe, L2, RcLe]; done)
  | (rw [rott_yes ‹_› (rotOk4 ‹_› hx2 ‹_› ‹_›)]; simp [RpLe, L2, RcLe, rotD]; done)
 ·have hs := diskOk_sizes h1
  refine ev_skip (et (sq (rg (xl ttOk rfl rfl (evl_call (nm := 16) (cf rfl) (c_l3Copy d ‹_›) (rs_of rfl) rfl rfl rfl (evl_e (e_alloc ttOk rfl rfl rfl rfl) (xst ttOk rfl rfl (nl (et (sq (sq (rg (xl ttOk rfl rfl (xm rfl rfl (evl_call (nm := 19) (cf rfl) (c_l3Has d _) (rs_of rfl) rfl rfl rfl (xo (q_not rfl) rfl (xm rfl rfl (evl_partn rfl rfl (fun h2 => ?_) (fun h2 => ?_)))))))))))))))))))
  ·try (have hx1 := inB_iff.1 (show inB x 0 ((d.kept.length : Int) - 1) = true from h2))
   try (have hx2 : x.toNat < d.kept.length := by omega)
   try (have hkl := kept_len h1 hx2)
   refine gn (nt h2) rfl rfl rfl (gn (nt h2) rfl rfl rfl (gn (nt h2) rfl rfl rfl (gn (nt h2) rfl rfl rfl (gn (nt h2) rfl rfl rfl (gn (nt h2) rfl rfl rfl (gn (nt h2) rfl rfl rfl (gn (nt h2) rfl rfl rfl (gn (nt h2) rfl rfl rfl (gn (nt h2) rfl rfl rfl (xo (q_pick_t rfl (nt h2) rfl) rfl (xm rfl rfl (gn rfl rfl rfl rfl (gn rfl rfl rfl rfl (gn rfl rfl rfl rfl (xo (q_pick_t rfl rfl rfl) rfl (nl (et (ev_cond_kt rfl rfl (sq (rg (xl ttOk rfl rfl (xst ttOk rfl rfl (xs rfl rfl (nl (et (ev_ret (evr_then (ret_pureN ttOk rfl rfl ?_))))))))))))))))))))))))))))
   first
   | (rw [rott_no ‹_›]; simp [RpLe, L2, RcLe, zeroD]; done)
   | (rw [rott_fail ‹_› (rotOk1 ‹_›)]; simp [RpLe, L2, RcLe]; done)
   | (rw [rott_fail ‹_› (rotOk2 hx2 ‹_›)]; simp [RpLe, L2, RcLe]; done)
   | (rw [rott_fail ‹_› (rotOk3 ‹_›)]; simp [RpLe, L2, RcLe]; done)
   | (rw [rott_yes ‹_› (rotOk4 ‹_› hx2 ‹_› ‹_›)]; simp [RpLe, L2, RcLe, rotD]; done)
  ·try (have hx1 := inB_iff.1 (show inB x 0 ((d.kept.length : Int) - 1) = true from h2))
   try (have hx2 : x.toNat < d.kept.length := by omega)
   try (have hkl := kept_len h1 hx2)
   refine gm (nf h2) rfl rfl rfl rfl (go (nf h2) rfl rfl (q_fieldAddr ttOk rfl) rfl (go (nf h2) rfl rfl (q_load ttOk rfl) rfl (gm (nf h2) rfl rfl rfl rfl (go (nf h2) rfl rfl (q_ix_map (m := x.toNat) ttOk rfl rfl rfl om om) rfl (go (nf h2) rfl rfl (q_load ttOk rfl) rfl (go (nf h2) rfl rfl (q_len_map ttOk rfl rfl) rfl (go (nf h2) rfl rfl (q_ar rfl rfl rfl om) rfl (evl_callg rfl rfl (nf h2) (nm := 30) (cf rfl) (c_l1In _ _ _) (rs_of rfl) rfl rfl rfl (go (nf h2) rfl rfl (q_not rfl) rfl (xo (q_pick_f rfl (nf h2) rfl) rfl (xm rfl rfl (evl_partn rfl rfl (fun h3 => ?_) (fun h3 => ?_)))))))))))))
   ·try (have hp9 := inB_iff.1 (show inB p 0 ((d.kept[x.toNat].length : Int) - 1) = true from h3))
    refine gn (nt h3) rfl rfl rfl (gn (nt h3) rfl rfl rfl (gn (nt h3) rfl rfl rfl (xo (q_pick_t rfl (nt h3) rfl) rfl (nl (et (ev_cond_kt rfl rfl (sq (rg (xl ttOk rfl rfl (xst ttOk rfl rfl (xs rfl rfl (nl (et (ev_ret (evr_then (ret_pureN ttOk rfl rfl ?_))))))))))))))))
    first
    | (rw [rott_no ‹_›]; simp [RpLe, L2, RcLe, zeroD]; done)
    | (rw [rott_fail ‹_› (rotOk1 ‹_›)]; simp [RpLe, L2, RcLe]; done)
    | (rw [rott_fail ‹_› (rotOk2 hx2 ‹_›)]; simp [RpLe, L2, RcLe]; done)
    | (rw [rott_fail ‹_› (rotOk3 ‹_›)]; simp [RpLe, L2, RcLe]; done)
    | (rw [rott_yes ‹_› (rotOk4 ‹_› hx2 ‹_› ‹_›)]; simp [RpLe, L2, RcLe, rotD]; done)
   ·try (have hp9 := inB_iff.1 (show inB p 0 ((d.kept[x.toNat].length : Int) - 1) = true from h3))
    refine gm (nf h3) rfl rfl rfl rfl (evl_callg rfl rfl (nf h3) (nm := 35) (cf rfl) (c_l1In _ _ _) (rs_of rfl) rfl rfl rfl (go (nf h3) rfl rfl (q_not rfl) rfl (xo (q_pick_f rfl (nf h3) rfl) rfl (nl (et (ev_cond_n rfl (fun h4 => ?_) (fun h4 => ?_)))))))
    ·try (have hp9 := inB_iff.1 (show inB p 0 ((d.kept[x.toNat].length : Int) - 1) = true from h4))
     refine sq (rg (xl ttOk rfl rfl (xst ttOk rfl rfl (xs rfl rfl (nl (et (ev_ret (evr_then (ret_pureN ttOk rfl rfl ?_)))))))))
     first
     | (rw [rott_no ‹_›]; simp [RpLe, L2, RcLe, zeroD]; done)
     | (rw [rott_fail ‹_› (rotOk1 ‹_›)]; simp [RpLe, L2, RcLe]; done)
     | (rw [rott_fail ‹_› (rotOk2 hx2 ‹_›)]; simp [RpLe, L2, RcLe]; done)
     | (rw [rott_fail ‹_› (rotOk3 ‹_›)]; simp [RpLe, L2, RcLe]; done)
     | (rw [rott_yes ‹_› (rotOk4 ‹_› hx2 ‹_› ‹_›)]; simp [RpLe, L2, RcLe, rotD]; done)
    ·try (have hp9 := inB_iff.1 (show inB p 0 ((d.kept[x.toNat].length : Int) - 1) = true from h4))
     refine ev_skip (et (sq (rg (xf ttOk rfl rfl (xl ttOk rfl rfl (xm rfl rfl (xo (q_ix_rt (m := x.toNat) ttOk rfl rfl rfl rfl rfl om (by simp; omega)) rfl (xo (q_load_pr ttOk rfl rfl rfl rfl (get_map om) rfl rfl) rfl (xm rfl rfl (xm rfl rfl (evl_st_sub (q := p.toNat) ttOk rfl rfl rfl rfl rfl om (by simp; omega) rfl rfl rfl (get_map om) rfl (rot_rows om) rfl rfl rfl rfl ?_)))))))))))
     refine nl (et (sq (rg (xl ttOk rfl rfl (xst ttOk rfl rfl (xs rfl rfl (nl (et (ev_ret (ret_pureN ttOk rfl rfl ?_))))))))))
     first
     | (rw [rott_no ‹_›]; simp [RpLe, L2, RcLe, zeroD]; done)
     | (rw [rott_fail ‹_› (rotOk1 ‹_›)]; simp [RpLe, L2, RcLe]; done)
     | (rw [rott_fail ‹_› (rotOk2 hx2 ‹_›)]; simp [RpLe, L2, RcLe]; done)
     | (rw [rott_fail ‹_› (rotOk3 ‹_›)]; simp [RpLe, L2, RcLe]; done)
     | (rw [rott_yes ‹_› (rotOk4 ‹_› hx2 ‹_› ‹_›)]; simp [RpLe, L2, RcLe, rotD]; done)
theorem c_l3Draw  : Rolls Tryz.prog 108 141 [] (α := Disk) (fun d => diskOk d = true) (fun d => [many' (diskR (d))]) := by
 refine rolls_intro (N := 32) Tryz.func141 rfl rfl rfl rfl (fun H w g v0 bn δ0 hsrc => ?_)
 refine sq (rg (evl_e (e_alloc ttOk rfl rfl rfl rfl) (nl (et (sq (rg (xm rfl rfl (evl_roll (nm := 6) (cf rfl) (c_l1Below _) rfl rfl hsrc (rs_of rfl) (fun _ => rfl) (fun yd δ1 r1 => ?_)))))))))
 refine rlk rfl rfl rfl ?_
 obtain ⟨r1a, r1b⟩ := r1
 refine xa rfl rfl rfl om rfl (evl_call (nm := 8) (cf rfl) (c_NewDisk _) (rs_of rfl) rfl rfl rfl (evl_e (e_alloc ttOk rfl rfl rfl rfl) (xst ttOk rfl rfl (nl (et (sq (sq (rg (xm rfl rfl (evl_roll (nm := 10) (cf rfl) (c_l1Below _) rfl rfl hsrc (rs_of rfl) (fun _ => rfl) (fun ym δ2 r2 => ?_)))))))))))
 refine rlk rfl rfl rfl ?_
 obtain ⟨r2a, r2b⟩ := r2
 obtain ⟨m, rfl⟩ := Int.eq_ofNat_of_zero_le r2a
 have hm := r2b om
 refine xs rfl rfl (nl (et (ev_blk (ev_loop (fun i : Nat × Int × Disk × DS bn => (⟨[(0, pbV 0 0), (2, pbV 2 0), (3, pbV 3 0), (4, iV i.2.1)], [(0, 108, diceA v0 i.2.2.2), (2, 30, [.c .nil, .c .nil]), (3, 30, [.rt 101, .rt 102])], [(101, 45, 1, (i.2.2.1.kept.map fun r => [ints r])), (102, 103, 2, (i.2.2.1.wait.map fun x => [iC x.1, ints x.2]))], []⟩ : St)) (fun i => i.2.1 = (m : Int) - i.1 ∧ i.1 ≤ m ∧ diskOk i.2.2.1 = true) (fun i => m - i.1) (0, m, newDiskF (1 + yd), δ2) [(101, 8), (102, 1008)] (⟨by simp, by simp, newd_ok ⟨by omega, by omega⟩⟩) ⟨trf, trf, ⟨⟨_, rfl, by rfl⟩, ⟨_, rfl, by rfl⟩, trivial⟩, tre, rfl⟩ ?_))))
 intro i hp
 obtain ⟨k, z, d, δ⟩ := i
 have hp : z = (m : Int) - k ∧ k ≤ m ∧ diskOk d = true := hp
 obtain ⟨p0, p1, p2⟩ := hp
 show Ev _ _ _ _ (⟨[(0, pbV 0 0), (2, pbV 2 0), (3, pbV 3 0), (4, iV z)], [(0, 108, diceA v0 δ), (2, 30, [.c .nil, .c .nil]), (3, 30, [.rt 101, .rt 102])], [(101, 45, 1, (d.kept.map fun r => [ints r])), (102, 103, 2, (d.wait.map fun x => [iC x.1, ints x.2]))], []⟩ : St)
 refine sq (sq (rg (xm rfl rfl (xb ttOk rfl rfl (nl (et (ev_cond rfl (fun h3 => ?_) (fun h3 => ?_))))))))
 ·try have d3 := of_decide_eq_true h3
  refine ev_skip (et (sq (ev_blk (sq (ev_drawd [12] g mo (rdd_take 0 0 0 rfl kr trivial rfl rfl rfl rfl (q_load ttOk rfl) rfl rfl (rdd_pure 1 rfl kr trivial (qw_move rfl) rfl (rdd_pure 2 rfl kr trivial (qw_fieldAddr ttOk rfl) rfl (rdd_take 0 0 3 rfl kr trivial rfl rfl rfl rfl (q_load ttOk rfl) rfl rfl (rdd_take 0 0 4 rfl kr trivial rfl rfl rfl rfl (q_len_rtm ttOk rfl rfl rfl) rfl rfl (rdd_pure 6 rfl kr trivial (qw_move rfl) rfl (rdd_1 5 kr (rddo_roll (nm := 21) 0 rfl trivial rfl rfl (cf rfl) (c_l1Below _) rfl rfl hsrc (rs_of rfl) (fun _ => rfl) (fun yx δ4 r4 => ?_))))))))))))))
  refine rdk rfl rfl rfl ?_
  obtain ⟨r4a, r4b⟩ := r4
  refine rdd_1 7 kr (rddo_roll (nm := 23) 0 rfl trivial rfl rfl (cf rfl) c_l1DrawRow rfl rfl hsrc (rs_of rfl) (fun _ => rfl) (fun F δ5 r5 => ?_))
  refine rdk rfl rfl rfl (rdd_1 8 kr (rddo_call (nm := 24) rfl trivial (cf rfl) (c_Wrote d yx F) (rs_of rfl) rfl rfl rfl (rdd_pure 9 rfl kr trivial (qw_move rfl) rfl (rdd_pure 10 rfl kr trivial (qw_ext rfl) rfl (rdd_pure 11 rfl kr trivial (qw_ext rfl) rfl (rdd_1 12 kr (rddo_brk rfl kr trivial (e_store ttOk rfl) (rdd_endq kr (et (sq (rg (xm rfl rfl (evl_roll (nm := 28) (cf rfl) (c_l1Once _) rfl rfl hsrc (rs_of rfl) (fun _ => rfl) (fun x6 δ6 r6 => ?_))))))))))))))
  refine rlk rfl rfl rfl (nl (et (ev_cond rfl (fun h7 => ?_) (fun h7 => ?_))))
  ·try have d7 := of_decide_eq_true h7
   refine rg (xl ttOk rfl rfl (evl_call (nm := 30) (cf rfl) (c_Synced (wroteF d yx F).1) (rs_of rfl) rfl rfl rfl (xst ttOk rfl rfl (nl (eb (et (rg (xm rfl rfl (xa rfl rfl rfl om rfl (xs rfl rfl (nl (eve_round (k + 1, z - 1, fallF (wroteF d yx F).1 [] true, δ6) [(101, 30), (102, 1030)] ?hp ⟨trf, trf, ⟨⟨_, rfl, by rfl⟩, ⟨_, rfl, by rfl⟩, trivial⟩, tre, rfl⟩))))))))))))
   case hp => exact ⟨⟨by dsimp only; omega, by omega, fall_ok (wrote_ok p2) [] true⟩, by omega⟩
  ·try have d7 := of_decide_eq_false h7
   refine ev_skip (eb (et (rg (xm rfl rfl (xa rfl rfl rfl om rfl (xs rfl rfl (nl (eve_round (k + 1, z - 1, (wroteF d yx F).1, δ6) [(101, 24), (102, 1024)] ?hp ⟨trf, trf, ⟨⟨_, rfl, by rfl⟩, ⟨_, rfl, by rfl⟩, trivial⟩, tre, rfl⟩))))))))
   case hp => exact ⟨⟨by dsimp only; omega, by omega, wrote_ok p2⟩, by omega⟩
 ·try have d3 := of_decide_eq_false h3
  refine ev_exit (evx_then (evx_then (evx_hit (et (sq (rg (xl ttOk rfl rfl (xst ttOk rfl rfl (nl (et (ev_ret (ret_roll d δ ttOk rfl rfl rfl rfl ?_ ?_))))))))))))
  ·simp [RpLe, L2, RcLe]
  ·exact p2
theorem c_l3DrawAny : RollsF Tryz.prog 108 115 (α := Disk) (fun _ => True) diskC := by
 refine rollsF_intro (N := 52) Tryz.func115 rfl rfl rfl (fun H w g v0 bn δ0 hsrc => ?_)
 refine sq (rg (evl_e (e_alloc ttOk rfl rfl rfl rfl) (nl (et (sq (rg (xm rfl rfl (evl_roll (nm := 5) (cf rfl) c_l3Draw rfl rfl hsrc (rs_of rfl) (fun _ => rfl) (fun d δ1 r1 => ?_)))))))))
 refine rlk rfl rfl rfl ?_
 have hsz := diskOk_sizes r1
 refine evl_e (e_alloc ttOk rfl rfl rfl rfl) (xst ttOk rfl rfl (nl (et (sq (sq (rg (xm rfl rfl (evl_roll (nm := 7) (cf rfl) (c_l1Once _) rfl rfl hsrc (rs_of rfl) (fun _ => rfl) (fun x2 δ2 r2 => ?_)))))))))
 refine rlk rfl rfl rfl (nl (et (ev_cond rfl (fun h3 => ?_) (fun h3 => ?_))))
 ·try have d3 := of_decide_eq_true h3
  refine sq (rg (xm rfl rfl (evl_roll (nm := 9) (cf rfl) (c_l1Below _) rfl rfl hsrc (rs_of rfl) (fun _ => rfl) (fun x4 δ4 r4 => ?_))))
  refine rlk rfl rfl rfl ?_
  obtain ⟨r4a, r4b⟩ := r4
  refine nl (et (ev_blk (sq (rg (xb ttOk rfl rfl (xs rfl rfl (nl (et (ev_cond rfl (fun h5 => ?_) (fun h5 => ?_))))))))))
  ·try have d5 := of_decide_eq_true h5
   refine ev_drawd [5, 7] g mo (rdd_pure 0 rfl kr trivial (qw_fieldAddr ttOk rfl) rfl (rdd_take 0 0 1 rfl kr trivial rfl rfl rfl rfl (q_load ttOk rfl) rfl rfl (rdd_pure 2 rfl kr trivial (qw_move rfl) rfl (rdd_1 3 kr (rddo_roll (nm := 15) 0 rfl trivial rfl rfl (cf rfl) c_l1DrawAny rfl rfl hsrc (rs_of rfl) (fun _ => rfl) (fun rw δ6 r6 => ?_))))))
   refine rdk rfl rfl rfl (rdd_1 4 kr (rddo_new rfl trivial (e_lit ttOk rfl rfl rfl) (rdd_1 5 kr (rddo_brk rfl kr trivial (e_app ttOk rfl rfl rfl rfl rfl rfl rfl (by simp; omega) rfl rfl) (rdd_pure 6 rfl kr trivial (qw_fieldAddr ttOk rfl) rfl (rdd_1 7 kr (rddo_brk rfl kr trivial (e_store ttOk rfl) (rdd_endq kr (eb (et (sq (ev_le (S' := ⟨[(0, pbV 0 0), (2, pbV 2 0), (3, pbV 3 0)], [(0, 108, diceA v0 δ6), (2, 30, [.c .nil, .c .nil]), (3, 30, [.rt 17, .rt 1005])], [(17, 45, 1, ((d.kept ++ [rw]).map fun r => [ints r])), (1005, 103, 2, (d.wait.map fun x => [iC x.1, ints x.2]))], []⟩) [] ⟨trf, trf, ⟨⟨_, rfl, by first | rfl | simp⟩, ⟨_, rfl, by first | rfl | simp⟩, trivial⟩, tre, rfl⟩ ?_))))))))))))
   refine ev_frsB 17 rfl (fun H1 hE1 => ?_)
   have hsrc := hsrc.mono hE1.1
   refine ev_frsB 1005 rfl (fun H2 hE2 => ?_)
   have hsrc := hsrc.mono hE2.1
   refine ev_le (S' := ⟨[(0, pbV 0 0), (2, pbV 2 0), (3, pbV 3 0)], [(0, 108, diceA v0 δ6), (2, 30, [.c .nil, .c .nil]), (3, 30, [.c (rows (d.kept ++ [rw])), .c (writes d.wait)])], [], []⟩) [] lei ?_
   refine rg (xl ttOk rfl rfl (xst ttOk rfl rfl (nl (et (ev_ret ?_)))))
   exact ret_rollF ⟨(d.kept ++ [rw]), d.wait⟩ δ6 (hE1.trans hE2) ttOk rfl rfl rfl rfl trivial
  ·try have d5 := of_decide_eq_false h5
   refine sq (rg (xb ttOk rfl rfl (xs rfl rfl (nl (et (ev_cond rfl (fun h7 => ?_) (fun h7 => ?_)))))))
   ·try have d7 := of_decide_eq_true h7
    refine ev_drawd [8, 10] g mo (rdd_pure 0 rfl kr trivial (qw_fieldAddr ttOk rfl) rfl (rdd_take 0 0 1 rfl kr trivial rfl rfl rfl rfl (q_load ttOk rfl) rfl rfl (rdd_pure 2 rfl kr trivial (qw_move rfl) rfl (rdd_pure 4 rfl kr trivial (qw_move rfl) rfl (rdd_1 3 kr (rddo_roll (nm := 24) 0 rfl trivial rfl rfl (cf rfl) (c_l1From _ _ om) rfl rfl hsrc (rs_of rfl) (fun _ => rfl) (fun yf δ8 r8 => ?_)))))))
    refine rdk rfl rfl rfl ?_
    obtain ⟨r8a, r8b⟩ := r8
    refine rdd_1 5 kr (rddo_roll (nm := 26) 0 rfl trivial rfl rfl (cf rfl) c_l1DrawAny rfl rfl hsrc (rs_of rfl) (fun _ => rfl) (fun rw δ9 r9 => ?_))
    refine rdk rfl rfl rfl (rdd_take 0 0 6 rfl kr trivial rfl rfl rfl rfl (q_build ttOk rfl) rfl rfl (rdd_1 7 kr (rddo_new rfl trivial (e_lit ttOk rfl rfl rfl) (rdd_1 8 kr (rddo_brk rfl kr trivial (e_app ttOk rfl rfl rfl rfl rfl rfl rfl (by simp; omega) rfl rfl) (rdd_pure 9 rfl kr trivial (qw_fieldAddr ttOk rfl) rfl (rdd_1 10 kr (rddo_brk rfl kr trivial (e_store ttOk rfl) (rdd_endq kr (eb (et (sq (ev_le (S' := ⟨[(0, pbV 0 0), (2, pbV 2 0), (3, pbV 3 0)], [(0, 108, diceA v0 δ9), (2, 30, [.c .nil, .c .nil]), (3, 30, [.rt 5, .rt 29])], [(5, 45, 1, (d.kept.map fun r => [ints r])), (29, 103, 2, ((d.wait ++ [(yf, rw)]).map fun x => [iC x.1, ints x.2]))], []⟩) [] ⟨trf, trf, ⟨⟨_, rfl, by first | rfl | simp⟩, ⟨_, rfl, by first | rfl | simp⟩, trivial⟩, tre, rfl⟩ ?_)))))))))))))
    refine ev_frsB 5 rfl (fun H1 hE1 => ?_)
    have hsrc := hsrc.mono hE1.1
    refine ev_frsB 29 rfl (fun H2 hE2 => ?_)
    have hsrc := hsrc.mono hE2.1
    refine ev_le (S' := ⟨[(0, pbV 0 0), (2, pbV 2 0), (3, pbV 3 0)], [(0, 108, diceA v0 δ9), (2, 30, [.c .nil, .c .nil]), (3, 30, [.c (rows d.kept), .c (writes (d.wait ++ [(yf, rw)]))])], [], []⟩) [] lei ?_
    refine rg (xl ttOk rfl rfl (xst ttOk rfl rfl (nl (et (ev_ret ?_)))))
    exact ret_rollF ⟨d.kept, (d.wait ++ [(yf, rw)])⟩ δ9 (hE1.trans hE2) ttOk rfl rfl rfl rfl trivial
   ·try have d7 := of_decide_eq_false h7
    refine sq (rg (xb ttOk rfl rfl (xs rfl rfl (nl (et (ev_cond rfl (fun h10 => ?_) (fun h10 => ?_)))))))
    ·try have d10 := of_decide_eq_true h10
     refine rg (xm rfl rfl (evl_roll (nm := 34) (cf rfl) (c_l1From _ _ om) rfl rfl hsrc (rs_of rfl) (fun _ => rfl) (fun yg δ11 r11 => ?_)))
     refine rlk rfl rfl rfl ?_
     obtain ⟨r11a, r11b⟩ := r11
     refine xa rfl rfl rfl om rfl (evl_e (e_make (m := (60 + yg).toNat) ttOk rfl rfl rfl rfl rfl om om om rfl rfl) (xf ttOk rfl rfl (xst ttOk rfl rfl (nl (eb (et (ev_nils (r := 36) (m := 1) (l' := (List.replicate (60 + yg).toNat ((0 : Int), ([] : List Int))).map fun x => [iC x.1, ints x.2]) rfl (by simp [nilTo]) rfl (sq (ev_le (S' := ⟨[(0, pbV 0 0), (2, pbV 2 0), (3, pbV 3 0)], [(0, 108, diceA v0 δ11), (2, 30, [.c .nil, .c .nil]), (3, 30, [.rt 5, .rt 36])], [(5, 45, 1, (d.kept.map fun r => [ints r])), (36, 103, 2, ((List.replicate (60 + yg).toNat (0, [])).map fun x => [iC x.1, ints x.2]))], []⟩) [] ⟨trf, trf, ⟨⟨_, rfl, by first | rfl | simp⟩, ⟨_, rfl, by first | rfl | simp⟩, trivial⟩, tre, rfl⟩ ?_)))))))))
     refine ev_frsB 5 rfl (fun H1 hE1 => ?_)
     have hsrc := hsrc.mono hE1.1
     refine ev_frsB 36 rfl (fun H2 hE2 => ?_)
     have hsrc := hsrc.mono hE2.1
     refine ev_le (S' := ⟨[(0, pbV 0 0), (2, pbV 2 0), (3, pbV 3 0)], [(0, 108, diceA v0 δ11), (2, 30, [.c .nil, .c .nil]), (3, 30, [.c (rows d.kept), .c (writes (List.replicate (60 + yg).toNat (0, [])))])], [], []⟩) [] lei ?_
     refine rg (xl ttOk rfl rfl (xst ttOk rfl rfl (nl (et (ev_ret ?_)))))
     exact ret_rollF ⟨d.kept, (List.replicate (60 + yg).toNat (0, []))⟩ δ11 (hE1.trans hE2) ttOk rfl rfl rfl rfl trivial
    ·try have d10 := of_decide_eq_false h10
     refine sq (rg (xb ttOk rfl rfl (xs rfl rfl (nl (et (ev_cond rfl (fun h12 => ?_) (fun h12 => ?_)))))))
     ·try have d12 := of_decide_eq_true h12
      refine rg (xm rfl rfl (evl_roll (nm := 41) (cf rfl) (c_l1Below _) rfl rfl hsrc (rs_of rfl) (fun _ => rfl) (fun yh δ13 r13 => ?_)))
      refine rlk rfl rfl rfl ?_
      obtain ⟨r13a, r13b⟩ := r13
      refine xa rfl rfl rfl om rfl (evl_e (e_make (m := (40 + yh).toNat) ttOk rfl rfl rfl rfl rfl om om om rfl rfl) (xf ttOk rfl rfl (xst ttOk rfl rfl (nl (eb (et (ev_nils (r := 43) (m := 1) (l' := (List.replicate (40 + yh).toNat ([] : List Int)).map fun r => [ints r]) rfl (by simp [nilTo]) rfl (sq (ev_le (S' := ⟨[(0, pbV 0 0), (2, pbV 2 0), (3, pbV 3 0)], [(0, 108, diceA v0 δ13), (2, 30, [.c .nil, .c .nil]), (3, 30, [.rt 43, .rt 1005])], [(43, 45, 1, ((List.replicate (40 + yh).toNat []).map fun r => [ints r])), (1005, 103, 2, (d.wait.map fun x => [iC x.1, ints x.2]))], []⟩) [] ⟨trf, trf, ⟨⟨_, rfl, by first | rfl | simp⟩, ⟨_, rfl, by first | rfl | simp⟩, trivial⟩, tre, rfl⟩ ?_)))))))))
      refine ev_frsB 43 rfl (fun H1 hE1 => ?_)
      have hsrc := hsrc.mono hE1.1
      refine ev_frsB 1005 rfl (fun H2 hE2 => ?_)
      have hsrc := hsrc.mono hE2.1
      refine ev_le (S' := ⟨[(0, pbV 0 0), (2, pbV 2 0), (3, pbV 3 0)], [(0, 108, diceA v0 δ13), (2, 30, [.c .nil, .c .nil]), (3, 30, [.c (rows (List.replicate (40 + yh).toNat [])), .c (writes d.wait)])], [], []⟩) [] lei ?_
      refine rg (xl ttOk rfl rfl (xst ttOk rfl rfl (nl (et (ev_ret ?_)))))
      exact ret_rollF ⟨(List.replicate (40 + yh).toNat []), d.wait⟩ δ13 (hE1.trans hE2) ttOk rfl rfl rfl rfl trivial
     ·try have d12 := of_decide_eq_false h12
      refine sq (rg (xb ttOk rfl rfl (xs rfl rfl (nl (et (ev_cond rfl (fun h14 => ?_) (fun h14 => ?_)))))))
      ·try have d14 := of_decide_eq_true h14
       refine ev_le (S' := ⟨[(0, pbV 0 0), (2, pbV 2 0), (3, pbV 3 0)], [(0, 108, diceA v0 δ4), (2, 30, [.c .nil, .c .nil]), (3, 30, [.rt 5, .rt 1005])], [(5, 45, 1, (d.kept.map fun r => [ints r])), (1005, 103, 2, (d.wait.map fun x => [iC x.1, ints x.2]))], []⟩) [] ⟨trf, trf, ⟨⟨_, rfl, by first | rfl | simp⟩, ⟨_, rfl, by first | rfl | simp⟩, trivial⟩, tre, rfl⟩ ?_
       refine ev_frsB 5 rfl (fun H1 hE1 => ?_)
       have hsrc := hsrc.mono hE1.1
       refine ev_le (S' := ⟨[(0, pbV 0 0), (2, pbV 2 0), (3, pbV 3 0)], [(0, 108, diceA v0 δ4), (2, 30, [.c .nil, .c .nil]), (3, 30, [.c (rows d.kept), .rt 1005])], [(1005, 103, 2, (d.wait.map fun x => [iC x.1, ints x.2]))], []⟩) [] lei ?_
       refine rg (xf ttOk rfl rfl (xl ttOk rfl rfl (xo (q_sl_from_map (k := 1) ttOk rfl rfl rfl rfl om) rfl (xf ttOk rfl rfl (xst ttOk rfl rfl (nl (eb (et (sq (ev_le (S' := ⟨[(0, pbV 0 0), (2, pbV 2 0), (3, pbV 3 0)], [(0, 108, diceA v0 δ4), (2, 30, [.c .nil, .c .nil]), (3, 30, [.c (rows (d.kept.drop 1)), .rt 1005])], [(1005, 103, 2, (d.wait.map fun x => [iC x.1, ints x.2]))], []⟩) [] ⟨trf, trf, ⟨⟨_, rfl, by first | rfl | simp⟩, trivial⟩, tre, rfl⟩ ?_))))))))))
       refine ev_frsB 1005 rfl (fun H2 hE2 => ?_)
       have hsrc := hsrc.mono hE2.1
       refine ev_le (S' := ⟨[(0, pbV 0 0), (2, pbV 2 0), (3, pbV 3 0)], [(0, 108, diceA v0 δ4), (2, 30, [.c .nil, .c .nil]), (3, 30, [.c (rows (d.kept.drop 1)), .c (writes d.wait)])], [], []⟩) [] lei ?_
       refine rg (xl ttOk rfl rfl (xst ttOk rfl rfl (nl (et (ev_ret ?_)))))
       exact ret_rollF ⟨(d.kept.drop 1), d.wait⟩ δ4 (hE1.trans hE2) ttOk rfl rfl rfl rfl trivial
      ·try have d14 := of_decide_eq_false h14
       refine ev_skip (eb (et (sq (ev_le (S' := ⟨[(0, pbV 0 0), (2, pbV 2 0), (3, pbV 3 0)], [(0, 108, diceA v0 δ4), (2, 30, [.c .nil, .c .nil]), (3, 30, [.rt 5, .rt 1005])], [(5, 45, 1, (d.kept.map fun r => [ints r])), (1005, 103, 2, (d.wait.map fun x => [iC x.1, ints x.2]))], []⟩) [] ⟨trf, trf, ⟨⟨_, rfl, by first | rfl | simp⟩, ⟨_, rfl, by first | rfl | simp⟩, trivial⟩, tre, rfl⟩ ?_))))
       refine ev_frsB 5 rfl (fun H1 hE1 => ?_)
       have hsrc := hsrc.mono hE1.1
       refine ev_frsB 1005 rfl (fun H2 hE2 => ?_)
       have hsrc := hsrc.mono hE2.1
       refine ev_le (S' := ⟨[(0, pbV 0 0), (2, pbV 2 0), (3, pbV 3 0)], [(0, 108, diceA v0 δ4), (2, 30, [.c .nil, .c .nil]), (3, 30, [.c (rows d.kept), .c (writes d.wait)])], [], []⟩) [] lei ?_
       refine rg (xl ttOk rfl rfl (xst ttOk rfl rfl (nl (et (ev_ret ?_)))))
       exact ret_rollF ⟨d.kept, d.wait⟩ δ4 (hE1.trans hE2) ttOk rfl rfl rfl rfl trivial
 ·try have d3 := of_decide_eq_false h3
  refine ev_skip (et (sq (ev_le (S' := ⟨[(0, pbV 0 0), (2, pbV 2 0), (3, pbV 3 0)], [(0, 108, diceA v0 δ2), (2, 30, [.c .nil, .c .nil]), (3, 30, [.rt 5, .rt 1005])], [(5, 45, 1, (d.kept.map fun r => [ints r])), (1005, 103, 2, (d.wait.map fun x => [iC x.1, ints x.2]))], []⟩) [] ⟨trf, trf, ⟨⟨_, rfl, by first | rfl | simp⟩, ⟨_, rfl, by first | rfl | simp⟩, trivial⟩, tre, rfl⟩ ?_)))
  refine ev_frsB 5 rfl (fun H1 hE1 => ?_)
  have hsrc := hsrc.mono hE1.1
  refine ev_frsB 1005 rfl (fun H2 hE2 => ?_)
  have hsrc := hsrc.mono hE2.1
  refine ev_le (S' := ⟨[(0, pbV 0 0), (2, pbV 2 0), (3, pbV 3 0)], [(0, 108, diceA v0 δ2), (2, 30, [.c .nil, .c .nil]), (3, 30, [.c (rows d.kept), .c (writes d.wait)])], [], []⟩) [] lei ?_
  refine rg (xl ttOk rfl rfl (xst ttOk rfl rfl (nl (et (ev_ret ?_)))))
  exact ret_rollF ⟨d.kept, d.wait⟩ δ2 (hE1.trans hE2) ttOk rfl rfl rfl rfl trivial
end Go.Proofs.YtahkjonokeifmaaGreat.Cur
