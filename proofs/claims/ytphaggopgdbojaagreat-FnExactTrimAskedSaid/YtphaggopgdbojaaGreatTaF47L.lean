/- Walks of functions of the program, printed by a program of the prover. -/
import Derived.Test.YtphaggopgdbojaaGreatTaF47
namespace Go.Proofs.YtphaggopgdbojaaGreat
open Go.ChangeShapes Go.WideShapes Go.ChangeAt Go.RowKit
set_option linter.unusedVariables false
set_option linter.unusedSimpArgs false
set_option maxHeartbeats 1000000
set_option maxRecDepth 100000
attribute [local irreducible] EvL Ev EvE Quiet Eff Pure RDk RDb RDo
attribute [local irreducible] q2 q3 q4 q5 q6 q7
theorem L_TrimAsked (n : LogN) (x : Int) : Pure Tryz.prog 3 [many (logC n), one (iC x)] (bR true) := by
 refine pure_intro (N := 74) Tryz.func3 rfl rfl rfl rfl (fun H w => ?_)
 refine sq (rg (evl_e (e_box rfl rfl rfl rfl) (xs rfl rfl (nl (et (sq (rg (xs rfl rfl (nl (et (sq (rg (xl ttOk rfl rfl (xm rfl rfl (evl_call (nm := 15) (cf rfl) (z_log n _ (by omega)) (rs_of rfl) rfl rfl rfl (xs rfl rfl (nl (et (sq (sq (rg (xm rfl rfl (xb ttOk rfl rfl (nl (et (ev_cond rfl (fun h1 => ?_) (fun h1 => ?_)))))))))))))))))))))))))))
 · have d1 := of_decide_eq_true h1
   refine sq (rg (xs rfl rfl (nl (et (ev_ret (evr_then (ret_pure' ttOk rfl rfl ?_)))))))
   rfl
 · have d1 := of_decide_eq_false h1
   have e1 := szB_pos d1
   have hT : logSz n ≤ 1048576 := by omega
   have hsm := smL_of hT
   have hq7 := q_at (q := 1) (n := n) (by omega) hsm
   have c1 := c_TrimAsked n x
   have c2 := c_TrimAsked' n x
   have hsmr := trimAsked_sm n x
   generalize trimAskedF n x = r at c1 c2 hsmr
   have hq9r := q_at (q := 1) (n := r) (by omega) hsmr
   refine ev_skip (et (sq (rg (xl ttOk rfl rfl (evl_call (nm := 19) (cf rfl) (t_log n (by assumption)) (rs_of rfl) rfl rfl rfl (xm rfl rfl (evl_call (nm := 21) (cf rfl) c1 (rs_of rfl) rfl rfl rfl (evl_e (e_alloc ttOk rfl rfl rfl rfl) (xst ttOk rfl rfl (nl (et (sq (rg (xl ttOk rfl rfl (evl_call (nm := 23) (cf rfl) (t_log n (by assumption)) (rs_of rfl) rfl rfl rfl (evl_e (e_alloc ttOk rfl rfl rfl rfl) (xst ttOk rfl rfl (nl (et (sq (rg (xl ttOk rfl rfl (xm rfl rfl (evl_call (nm := 26) (cf rfl) c2 (rs_of rfl) rfl rfl rfl (evl_e (e_alloc ttOk rfl rfl rfl rfl) (xst ttOk rfl rfl (nl (et (sq (sq (rg (xl ttOk rfl rfl (xl ttOk rfl rfl ?_)))))))))))))))))))))))))))))))))
   first | refine evl_call (nm := 29) (cf rfl) (e_log n) (rs_of rfl) rfl rfl rfl ?_ | refine evl_call (nm := 29) (cf rfl) (e_log r) (rs_of rfl) rfl rfl rfl ?_
   refine xo (q_notL rfl) rfl (nl (et (ev_cond_kf rfl rfl (ev_skip (et (ev_pr [1, 2, 4, 6, 7, 8, 9, 10, 11, 12, 31, 32, 33, 34, 35, 36, 37, 38, 39, 40, 41, 42, 43, 44, 45, 46, 47, 48, 49, 50, 51, 52, 53, 54, 55, 56, 57, 58, 59, 60, 61, 62, 63, 64, 65, 66, 67, 68, 69, 70, 71, 72, 73] rfl (sq (sq (ev_drawq [] mo (rdk_take 0 rfl (by kernel_rfl) trivial (q_load ttOk rfl) rfl (rdk_take 1 rfl (by kernel_rfl) trivial (q_load ttOk rfl) rfl (rdk_one 2 (by kernel_rfl) (rdo_call (nm := 33) rfl trivial (cf rfl) (t_log n (by assumption)) (rs_of rfl) rfl rfl rfl (rdk_one 3 (by kernel_rfl) ?_))))))))))))))
   first | refine rdo_call (nm := 34) rfl trivial (cf rfl) (e_log n) (rs_of rfl) rfl rfl rfl ?_ | refine rdo_call (nm := 34) rfl trivial (cf rfl) (e_log r) (rs_of rfl) rfl rfl rfl ?_
   refine rdk_take 4 rfl (by kernel_rfl) trivial (q_notL rfl) rfl (rdk_endq (by kernel_rfl) (et (ev_cond_kf rfl rfl (ev_skip (et (sq (rg (xs rfl rfl (nl (et (sq (rg (xl ttOk rfl rfl (xm rfl rfl ?_))))))))))))))
   first | refine evl_mark (cf rfl) rfl rfl rfl (m_log _ _ _ _ _ _ _ _ _ n 1 (by omega) hsm) rfl rfl rfl ?_ | refine evl_mark (cf rfl) rfl rfl rfl (m_log _ _ _ _ _ _ _ _ _ r 1 (by omega) hsmr) rfl rfl rfl ?_
   refine xs rfl rfl (nl (et (sq (sq (rg (xm rfl rfl (xb ttOk rfl rfl (xm rfl rfl (go (decide_eq_false (by omega)) rfl rfl (q_load ttOk rfl) rfl (go (decide_eq_false (by omega)) rfl rfl (q_load ttOk rfl) rfl ?_))))))))))
   first | refine evl_callg rfl rfl (decide_eq_false (by omega)) (nm := 44) (cf rfl) (e_log n) (rs_of rfl) rfl rfl rfl ?_ | refine evl_callg rfl rfl (decide_eq_false (by omega)) (nm := 44) (cf rfl) (e_log r) (rs_of rfl) rfl rfl rfl ?_
   refine go (decide_eq_false (by omega)) rfl rfl (q_notL rfl) rfl (xo (q_pick_f rfl (decide_eq_false (by omega)) rfl) rfl (nl (et (ev_cond_kf rfl rfl (ev_skip (et (sq (rg (xs rfl rfl (nl (et (sq (rg (xl ttOk rfl rfl (xm rfl rfl ?_)))))))))))))))
   first | refine evl_mark (cf rfl) rfl rfl rfl (m_log _ _ _ _ _ _ _ _ _ n 1 (by omega) hsm) rfl rfl rfl ?_ | refine evl_mark (cf rfl) rfl rfl rfl (m_log _ _ _ _ _ _ _ _ _ r 1 (by omega) hsmr) rfl rfl rfl ?_
   refine xs rfl rfl (nl (et (sq (rg (xs rfl rfl (nl (et (sq (rg (xl ttOk rfl rfl (xm rfl rfl (evl_call (nm := 52) (cf rfl) (h_log r 1 _ rfl (by omega) hsmr) (rs_of rfl) rfl rfl rfl (xs rfl rfl (nl (et (ev_pr [1, 2, 4, 6, 8, 10, 11, 12, 53, 54, 55, 56, 57, 58, 59, 60, 61, 62, 63, 64, 65, 66, 67, 68, 69, 70, 71, 72, 73] rfl (sq (sq (rg (xm rfl rfl (xb ttOk rfl rfl (nl (et (ev_cond_kf rfl (decide_eq_false (by omega)) (ev_skip (et (sq (sq (rg (xm rfl rfl (xm rfl rfl (xb ttOk rfl rfl (nl (et (ev_cond_kf rfl (decide_eq_false (by omega)) (ev_skip (et (sq (rg (xl ttOk rfl rfl (evl_call (nm := 59) (cf rfl) (t_log n (by assumption)) (rs_of rfl) rfl rfl rfl (xm rfl rfl (evl_call (nm := 61) (cf rfl) c2 (rs_of rfl) rfl rfl rfl (evl_e (e_alloc ttOk rfl rfl rfl rfl) (xst ttOk rfl rfl (nl (et (sq (sq (rg ?_))))))))))))))))))))))))))))))))))))))))))))))))))
   refine xl ttOk rfl rfl (xl ttOk rfl rfl ?_)
   first | refine evl_call (nm := 64) (cf rfl) (e_log n) (rs_of rfl) rfl rfl rfl ?_ | refine evl_call (nm := 64) (cf rfl) (e_log r) (rs_of rfl) rfl rfl rfl ?_
   refine xo (q_notL rfl) rfl (nl (et (ev_cond_kf rfl rfl (ev_skip (et (sq (rg (xs rfl rfl (nl (et (sq (rg (xl ttOk rfl rfl (xm rfl rfl (evl_call (nm := 68) (cf rfl) (h_log r 1 _ rfl (by omega) hsmr) (rs_of rfl) rfl rfl rfl (xs rfl rfl (nl (et (sq (sq (rg (xm rfl rfl (xb ttOk rfl rfl (nl (et (ev_cond_kf rfl (decide_eq_false (by omega)) (ev_skip (et (sq (sq (rg (xm rfl rfl (xm rfl rfl (xb ttOk rfl rfl (nl (et (ev_cond_kf rfl (decide_eq_false (by omega)) (ev_skip (et (sq (rg (xs rfl rfl (nl (et (ev_ret (ret_pure' ttOk rfl rfl ?_))))))))))))))))))))))))))))))))))))))))))))))
   rfl

end Go.Proofs.YtphaggopgdbojaaGreat
