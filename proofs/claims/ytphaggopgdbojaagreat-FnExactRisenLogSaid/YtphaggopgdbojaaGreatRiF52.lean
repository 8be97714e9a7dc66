/- Walks of functions of the program, printed by a program of the prover. -/
import Derived.Test.YtphaggopgdbojaaGreatRiF51
import Derived.Test.YtphaggopgdbojaaGreatRiV9
namespace Go.Proofs.YtphaggopgdbojaaGreat
open Go.ChangeShapes Go.WideShapes Go.ChangeAt Go.RowKit
set_option linter.unusedVariables false
set_option linter.unusedSimpArgs false
set_option maxHeartbeats 1000000
set_option maxRecDepth 100000
attribute [local irreducible] EvL Ev EvE Quiet Eff Pure RDk RDb RDo
attribute [local irreducible] q2 q3 q4 q5 q6 q7
theorem c_RisenLog (n : LogN) : Pure Tryz.prog 16 [many (logC n)] [many' (logR ((risenF n.two).1)), one' (RC.v (.bool ((risenF n.two).2)))] := by
 refine pure_intro (N := 36) Tryz.func16 rfl rfl rfl rfl (fun H w => ?_)
 have c1 := c_Recovered n.two
 have hr1 := rec_head (t := n.two)
 have hri1 := ri_no (t := n.two)
 have hri2 := ri_yes (t := n.two)
 have hrs := rec_small n.two
 generalize recF n.two = rr at c1 hr1 hri1 hri2 hrs
 refine sq (rg (evl_e (e_box rfl rfl rfl rfl) (evl_e (e_alloc ttOk rfl rfl rfl rfl) (xs rfl rfl (nl (et (sq (rg (xf ttOk rfl rfl (xl ttOk rfl rfl (evl_call (nm := 12) (cf rfl) c1 (rs_of rfl) rfl rfl rfl (xm rfl rfl (xo (q_ext rfl) rfl (xo (q_ext rfl) rfl (xo (q_ext rfl) rfl (xo (q_ext rfl) rfl (evl_e (e_alloc ttOk rfl rfl rfl rfl) (evl_e (e_alloc ttOk rfl rfl rfl rfl) (evl_e (e_alloc ttOk rfl rfl rfl rfl) (xst ttOk rfl rfl (xst ttOk rfl rfl (xst ttOk rfl rfl (xs rfl rfl (nl (et (sq (sq (rg (xm rfl rfl (xo (q_not rfl) rfl (nl (et (ev_cond_n rfl (fun h1 => ?_) (fun h1 => ?_))))))))))))))))))))))))))))))))))
 · refine sq (rg (xo (q_build ttOk rfl) rfl (xst ttOk rfl rfl (xs rfl rfl (nl (et (ev_ret (evr_then (ret_pureN ttOk rfl rfl ?_)))))))))
   first
   | (rw [hri1 (by assumption)]; simp [RpLe, L2, RcLe, zeroL, zeroD, zeroT, noHead]; done)
   | (rw [hri2 (by assumption)]; simp [RpLe, L2, RcLe, noHead]; done)
 · refine ev_skip (et (sq ?_))
   refine' ev_draw [7] mo ?hdr1 ?kdr1
   case hdr1 =>
     refine rdk_take 0 rfl (by kernel_rfl) trivial (q_load ttOk rfl) rfl (rdk_take 1 rfl (by kernel_rfl) trivial (q_load ttOk rfl) rfl (rdk_take 2 rfl (by kernel_rfl) trivial (q_load ttOk rfl) rfl (rdk_take 3 rfl (by kernel_rfl) trivial (q_load ttOk rfl) rfl (rdk_two 4 6 (by kernel_rfl) ?_ ?_))))
     · refine rdo_call (nm := 24) rfl trivial (cf rfl) (c_l8Last rr.2.2.1 (hr1 (by assumption)).2.1) (rs_of rfl) rfl rfl rfl (rdk_take 5 rfl (by kernel_rfl) trivial (q_build ttOk rfl) rfl (rdk_one 6 (by kernel_rfl) (rdo_new rfl trivial (e_alloc ttOk rfl rfl rfl rfl) (rdk_one 7 (by kernel_rfl) (rdo_brk rfl rfl trivial (e_store ttOk rfl) ?_)))))
       exact rdb_fin (by kernel_rfl)
     · refine rdo_new rfl trivial (e_alloc ttOk rfl rfl rfl rfl) (rdk_one 4 (by kernel_rfl) (rdo_call (nm := 24) rfl trivial (cf rfl) (c_l8Last rr.2.2.1 (hr1 (by assumption)).2.1) (rs_of rfl) rfl rfl rfl (rdk_take 5 rfl (by kernel_rfl) trivial (q_build ttOk rfl) rfl (rdk_one 7 (by kernel_rfl) (rdo_brk rfl rfl trivial (e_store ttOk rfl) ?_)))))
       exact rdb_le [] (by kernel_rfl) ⟨by (repeat first | exact trivial | refine ⟨rfl, ?_⟩), by (repeat first | exact trivial | refine ⟨rfl, ?_⟩), by (repeat first | exact trivial | refine ⟨⟨_, rfl, rfl⟩, ?_⟩), by (repeat first | exact trivial | refine ⟨⟨_, rfl, rfl⟩, ?_⟩), rfl⟩
   refine et (sq (rg (xf ttOk rfl rfl (xl ttOk rfl rfl (xf ttOk rfl rfl (xl ttOk rfl rfl (evl_call (nm := 31) (cf rfl) (c_SeenOver rr.2.1.seen rr.2.2.1.entries) (rs_of rfl) rfl rfl rfl (xm rfl rfl (xo (q_ext rfl) rfl (xo (q_ext rfl) rfl (xf ttOk rfl rfl (xst ttOk rfl rfl (nl (et (sq (rg (xl ttOk rfl rfl (xst ttOk rfl rfl (xs rfl rfl (nl (et (ev_ret (ret_pureN ttOk rfl rfl ?_)))))))))))))))))))))))
   first
   | (rw [hri1 (by assumption)]; simp [RpLe, L2, RcLe, zeroL, zeroD, zeroT, noHead]; done)
   | (rw [hri2 (by assumption)]; simp [RpLe, L2, RcLe, noHead]; done)
theorem c_RisenLog' (n : LogN) : Pure Tryz.prog 17 [many (logC n)] [many' (logR ((risenF n.two).1)), one' (RC.v (.bool ((risenF n.two).2)))] := by
 refine pure_intro (N := 36) Tryz.func17 rfl rfl rfl rfl (fun H w => ?_)
 have c1 := c_Recovered' n.two
 have hr1 := rec_head (t := n.two)
 have hri1 := ri_no (t := n.two)
 have hri2 := ri_yes (t := n.two)
 have hrs := rec_small n.two
 generalize recF n.two = rr at c1 hr1 hri1 hri2 hrs
 refine sq (rg (evl_e (e_box rfl rfl rfl rfl) (evl_e (e_alloc ttOk rfl rfl rfl rfl) (xs rfl rfl (nl (et (sq (rg (xf ttOk rfl rfl (xl ttOk rfl rfl (evl_call (nm := 13) (cf rfl) c1 (rs_of rfl) rfl rfl rfl (xm rfl rfl (xo (q_ext rfl) rfl (xo (q_ext rfl) rfl (xo (q_ext rfl) rfl (xo (q_ext rfl) rfl (evl_e (e_alloc ttOk rfl rfl rfl rfl) (evl_e (e_alloc ttOk rfl rfl rfl rfl) (evl_e (e_alloc ttOk rfl rfl rfl rfl) (xst ttOk rfl rfl (xst ttOk rfl rfl (xst ttOk rfl rfl (xs rfl rfl (nl (et (sq (sq (rg (xm rfl rfl (xo (q_not rfl) rfl (nl (et (ev_cond_n rfl (fun h1 => ?_) (fun h1 => ?_))))))))))))))))))))))))))))))))))
 · refine sq (rg (xo (q_build ttOk rfl) rfl (xst ttOk rfl rfl (xs rfl rfl (nl (et (ev_ret (evr_then (ret_pureN ttOk rfl rfl ?_)))))))))
   first
   | (rw [hri1 (by assumption)]; simp [RpLe, L2, RcLe, zeroL, zeroD, zeroT, noHead]; done)
   | (rw [hri2 (by assumption)]; simp [RpLe, L2, RcLe, noHead]; done)
 · refine ev_skip (et (sq (rg (xf ttOk rfl rfl (xl ttOk rfl rfl (xf ttOk rfl rfl (xl ttOk rfl rfl (evl_call (nm := 26) (cf rfl) (c_SeenOver' rr.2.1.seen rr.2.2.1.entries) (rs_of rfl) rfl rfl rfl (xm rfl rfl (xo (q_ext rfl) rfl (xo (q_ext rfl) rfl (xs rfl rfl (xs rfl rfl (nl (et (sq (ev_drawq [7] mo (rdk_take 0 rfl (by kernel_rfl) trivial (q_load ttOk rfl) rfl (rdk_take 1 rfl (by kernel_rfl) trivial (q_load ttOk rfl) rfl (rdk_take 2 rfl (by kernel_rfl) trivial (q_load ttOk rfl) rfl (rdk_take 3 rfl (by kernel_rfl) trivial (q_move rfl) rfl (rdk_take 4 rfl (by kernel_rfl) trivial (q_load ttOk rfl) rfl (rdk_one 5 (by kernel_rfl) (rdo_call (nm := 34) rfl trivial (cf rfl) (c_lastOf rr.2.2.1 (hr1 (by assumption)).2.1) (rs_of rfl) rfl rfl rfl (rdk_take 6 rfl (by kernel_rfl) trivial (q_build ttOk rfl) rfl (rdk_one 7 (by kernel_rfl) (rdo_brk rfl rfl trivial (e_store ttOk rfl) (rdb_q 8 rfl (by kernel_rfl) trivial (q_assign rfl) rfl (rdb_endq (by kernel_rfl) (et (ev_ret (ret_pureN ttOk rfl rfl ?_))))))))))))))))))))))))))))))))
   first
   | (rw [hri1 (by assumption)]; simp [RpLe, L2, RcLe, zeroL, zeroD, zeroT, noHead]; done)
   | (rw [hri2 (by assumption)]; simp [RpLe, L2, RcLe, noHead]; done)
theorem L_RisenLog (n : LogN) : Pure Tryz.prog 4 [many (logC n)] (bR true) := by
 refine pure_intro (N := 96) Tryz.func4 rfl rfl rfl rfl (fun H w => ?_)
 refine sq (rg (evl_e (e_box rfl rfl rfl rfl) (xs rfl rfl (nl (et (sq (rg (xs rfl rfl (nl (et (sq (rg (xl ttOk rfl rfl (xm rfl rfl (evl_call (nm := 16) (cf rfl) (z_log n _ (by omega)) (rs_of rfl) rfl rfl rfl (xs rfl rfl (nl (et (sq (sq (rg (xm rfl rfl (xb ttOk rfl rfl (nl (et (ev_cond rfl (fun h1 => ?_) (fun h1 => ?_)))))))))))))))))))))))))))
 · have d1 := of_decide_eq_true h1
   refine sq (rg (xs rfl rfl (nl (et (ev_ret (evr_then (ret_pure' ttOk rfl rfl ?_)))))))
   rfl
 · have d1 := of_decide_eq_false h1
   have e1 := szB_pos d1
   have hT : logSz n ≤ 1048576 := by omega
   have hsm := smL_of hT
   have hq7 := q_at (q := 1) (n := n) (by omega) hsm
   have c1 := c_RisenLog n
   have c2 := c_RisenLog' n
   have hsmr := risen_sm n.two
   generalize (risenF n.two).1 = r at c1 c2 hsmr
   have hq9r := q_at (q := 1) (n := r) (by omega) hsmr
   refine ev_skip (et (sq (rg (xl ttOk rfl rfl (evl_call (nm := 21) (cf rfl) (t_log n (by assumption)) (rs_of rfl) rfl rfl rfl (evl_call (nm := 22) (cf rfl) c1 (rs_of rfl) rfl rfl rfl (xm rfl rfl (xo (q_ext rfl) rfl (xo (q_ext rfl) rfl (evl_e (e_alloc ttOk rfl rfl rfl rfl) (xst ttOk rfl rfl (xs rfl rfl (nl (et (sq (rg (xl ttOk rfl rfl (evl_call (nm := 26) (cf rfl) (t_log n (by assumption)) (rs_of rfl) rfl rfl rfl (evl_e (e_alloc ttOk rfl rfl rfl rfl) (xst ttOk rfl rfl (nl (et (sq (rg (xl ttOk rfl rfl (evl_call (nm := 29) (cf rfl) c2 (rs_of rfl) rfl rfl rfl (xm rfl rfl (xo (q_ext rfl) rfl (xo (q_ext rfl) rfl (evl_e (e_alloc ttOk rfl rfl rfl rfl) (xst ttOk rfl rfl (xs rfl rfl (nl (et (ev_pr [1, 2, 4, 5, 6, 7, 8, 9, 10, 11, 12, 13, 32, 33, 34, 35, 36, 37, 38, 39, 40, 41, 42, 43, 44, 45, 46, 47, 48, 49, 50, 51, 52, 53, 54, 55, 56, 57, 58, 59, 60, 61, 62, 63, 64, 65, 66, 67, 68, 69, 70, 71, 72, 73, 74, 75, 76, 77, 78, 79, 80, 81, 82, 83, 84, 85, 86, 87, 88, 89, 90, 91, 92, 93, 94, 95] rfl (sq (sq (rg (xl ttOk rfl rfl (xl ttOk rfl rfl ?_))))))))))))))))))))))))))))))))))))))))
   first | refine evl_call (nm := 34) (cf rfl) (e_log n) (rs_of rfl) rfl rfl rfl ?_ | refine evl_call (nm := 34) (cf rfl) (e_log r) (rs_of rfl) rfl rfl rfl ?_
   refine xo (q_notL rfl) rfl (xm rfl rfl (gm rfl rfl rfl rfl rfl (gm rfl rfl rfl rfl rfl (go rfl rfl rfl (q_bin ttOk rfl) rfl (xo (q_pick_f rfl rfl rfl) rfl (nl (et (ev_cond_kf rfl (by simp) (ev_skip (et (sq (sq (ev_drawq [] mo (rdk_take 0 rfl (by kernel_rfl) trivial (q_load ttOk rfl) rfl (rdk_take 1 rfl (by kernel_rfl) trivial (q_load ttOk rfl) rfl (rdk_one 2 (by kernel_rfl) (rdo_call (nm := 43) rfl trivial (cf rfl) (t_log n (by assumption)) (rs_of rfl) rfl rfl rfl (rdk_one 3 (by kernel_rfl) ?_))))))))))))))))))
   first | refine rdo_call (nm := 44) rfl trivial (cf rfl) (e_log n) (rs_of rfl) rfl rfl rfl ?_ | refine rdo_call (nm := 44) rfl trivial (cf rfl) (e_log r) (rs_of rfl) rfl rfl rfl ?_
   refine rdk_take 4 rfl (by kernel_rfl) trivial (q_notL rfl) rfl (rdk_endq (by kernel_rfl) (et (ev_cond_kf rfl rfl (ev_skip (et (sq (rg (xs rfl rfl (nl (et (sq (rg (xl ttOk rfl rfl (xm rfl rfl ?_))))))))))))))
   first | refine evl_mark (cf rfl) rfl rfl rfl (m_log _ _ _ _ _ _ _ _ _ n 1 (by omega) hsm) rfl rfl rfl ?_ | refine evl_mark (cf rfl) rfl rfl rfl (m_log _ _ _ _ _ _ _ _ _ r 1 (by omega) hsmr) rfl rfl rfl ?_
   refine xs rfl rfl (nl (et (sq (sq (rg (xm rfl rfl (xb ttOk rfl rfl (xm rfl rfl (go (decide_eq_false (by omega)) rfl rfl (q_load ttOk rfl) rfl (go (decide_eq_false (by omega)) rfl rfl (q_load ttOk rfl) rfl ?_))))))))))
   first | refine evl_callg rfl rfl (decide_eq_false (by omega)) (nm := 54) (cf rfl) (e_log n) (rs_of rfl) rfl rfl rfl ?_ | refine evl_callg rfl rfl (decide_eq_false (by omega)) (nm := 54) (cf rfl) (e_log r) (rs_of rfl) rfl rfl rfl ?_
   refine go (decide_eq_false (by omega)) rfl rfl (q_notL rfl) rfl (xo (q_pick_f rfl (decide_eq_false (by omega)) rfl) rfl (xm rfl rfl (gm rfl rfl rfl rfl rfl (gm rfl rfl rfl rfl rfl (go rfl rfl rfl (q_bin ttOk rfl) rfl (xo (q_pick_f rfl rfl rfl) rfl (nl (et (ev_cond_kf rfl (by simp) (ev_skip (et (ev_pr [1, 2, 4, 5, 7, 10, 11, 12, 13, 62, 63, 64, 65, 66, 67, 68, 69, 70, 71, 72, 73, 74, 75, 76, 77, 78, 79, 80, 81, 82, 83, 84, 85, 86, 87, 88, 89, 90, 91, 92, 93, 94, 95] rfl (sq (rg (xs rfl rfl (nl (et (sq (rg (xl ttOk rfl rfl (xm rfl rfl ?_)))))))))))))))))))))
   first | refine evl_mark (cf rfl) rfl rfl rfl (m_log _ _ _ _ _ _ _ _ _ n 1 (by omega) hsm) rfl rfl rfl ?_ | refine evl_mark (cf rfl) rfl rfl rfl (m_log _ _ _ _ _ _ _ _ _ r 1 (by omega) hsmr) rfl rfl rfl ?_
   refine xs rfl rfl (nl (et (sq (rg (xs rfl rfl (nl (et (sq (rg (xl ttOk rfl rfl (xm rfl rfl (evl_call (nm := 67) (cf rfl) (h_log r 1 _ rfl (by omega) hsmr) (rs_of rfl) rfl rfl rfl (xs rfl rfl (nl (et (sq (sq (rg (xm rfl rfl (xb ttOk rfl rfl (nl (et (ev_cond_kf rfl (decide_eq_false (by omega)) (ev_skip (et (sq (sq (rg (xm rfl rfl (xm rfl rfl (xb ttOk rfl rfl (nl (et (ev_cond_kf rfl (decide_eq_false (by omega)) (ev_skip (et (sq (rg (xl ttOk rfl rfl (evl_call (nm := 75) (cf rfl) (t_log n (by assumption)) (rs_of rfl) rfl rfl rfl (evl_call (nm := 76) (cf rfl) c2 (rs_of rfl) rfl rfl rfl (xm rfl rfl (xo (q_ext rfl) rfl (xo (q_ext rfl) rfl (evl_e (e_alloc ttOk rfl rfl rfl rfl) (xst ttOk rfl rfl (xs rfl rfl (nl (et (sq ?_))))))))))))))))))))))))))))))))))))))))))))))))))
   refine sq (rg (xl ttOk rfl rfl (xl ttOk rfl rfl ?_)))
   first | refine evl_call (nm := 81) (cf rfl) (e_log n) (rs_of rfl) rfl rfl rfl ?_ | refine evl_call (nm := 81) (cf rfl) (e_log r) (rs_of rfl) rfl rfl rfl ?_
   refine xo (q_notL rfl) rfl (xm rfl rfl (gm rfl rfl rfl rfl rfl (gm rfl rfl rfl rfl rfl (go rfl rfl rfl (q_bin ttOk rfl) rfl (xo (q_pick_f rfl rfl rfl) rfl (nl (et (ev_cond_kf rfl (by simp) (ev_skip (et (ev_pr [2, 7, 10, 11, 88, 89, 90, 91, 92, 93, 94, 95] rfl (sq (rg (xs rfl rfl (nl (et (sq (rg (xl ttOk rfl rfl (xm rfl rfl (evl_call (nm := 90) (cf rfl) (h_log r 1 _ rfl (by omega) hsmr) (rs_of rfl) rfl rfl rfl (xs rfl rfl (nl (et (sq (sq (rg (xm rfl rfl (xb ttOk rfl rfl (nl (et (ev_cond_kf rfl (decide_eq_false (by omega)) (ev_skip (et (sq (sq (rg (xm rfl rfl (xm rfl rfl (xb ttOk rfl rfl (nl (et (ev_cond_kf rfl (decide_eq_false (by omega)) (ev_skip (et (sq (rg (xs rfl rfl (nl (et ?_))))))))))))))))))))))))))))))))))))))))))))))))))
   refine ev_ret (ret_pure' ttOk rfl rfl ?_)
   rfl
end Go.Proofs.YtphaggopgdbojaaGreat
