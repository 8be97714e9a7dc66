/- Walks of functions of the program, printed by a program of the prover. -/
import Derived.Test.YtpbhcdgdabfhfaaGreatLoF38
namespace Go.Proofs.YtpbhcdgdabfhfaaGreat
open Go.ChangeShapes Go.WideShapes Go.ChangeAt Go.RowKit
set_option linter.unusedVariables false
set_option linter.unusedSimpArgs false
set_option maxHeartbeats 1000000
set_option maxRecDepth 100000
attribute [local irreducible] EvL Ev EvE Quiet Eff Pure RDk RDb RDo
theorem c_LogOk2 (n : LogN) : Pure Tryz.prog 21 [many (logC n)] (bR (logOkF n)) := by
  have h := c_LogOk' n
  rw [logOk_same] at h
  exact h
theorem L_LogOk (n : LogN) : Pure Tryz.prog 4 [many (logC n)] (bR true) := by
 refine pure_intro (N := 27) Tryz.func4 rfl rfl rfl rfl (fun H w => ?_)
 refine sq (rg (evl_e (e_box rfl rfl rfl rfl) (xs rfl rfl (nl (et (sq (rg (xs rfl rfl (nl (et (sq (rg (xl ttOk rfl rfl (xm rfl rfl (evl_call (nm := 9) (cf rfl) (z_log n _ (by omega)) (rs_of rfl) rfl rfl rfl (xs rfl rfl (nl (et (sq (sq (rg (xm rfl rfl (xb ttOk rfl rfl (nl (et (ev_cond rfl (fun h1 => ?_) (fun h1 => ?_)))))))))))))))))))))))))))
 · have d1 := of_decide_eq_true h1
   refine sq (rg (xs rfl rfl (nl (et (ev_ret (evr_then (ret_pure' ttOk rfl rfl ?_)))))))
   rfl
 · have d1 := of_decide_eq_false h1
   have e1 := szB_pos d1
   have hT : logSz n ≤ 1048576 := by omega
   refine ev_skip (et (sq (rg (xl ttOk rfl rfl (evl_call (nm := 13) (cf rfl) (t_log n (by assumption)) (rs_of rfl) rfl rfl rfl (evl_call (nm := 14) (cf rfl) (c_LogOk n) (rs_of rfl) rfl rfl rfl (xs rfl rfl (nl (et (sq (rg (xl ttOk rfl rfl (evl_call (nm := 16) (cf rfl) (t_log n (by assumption)) (rs_of rfl) rfl rfl rfl (evl_e (e_alloc ttOk rfl rfl rfl rfl) (xst ttOk rfl rfl (nl (et (sq (rg (xl ttOk rfl rfl (evl_call (nm := 18) (cf rfl) (c_LogOk2 n) (rs_of rfl) rfl rfl rfl (xs rfl rfl (nl (et (sq (sq (rg (xm rfl rfl (xm rfl rfl (xb ttOk rfl rfl (nl (et (ev_cond_kf rfl (by simp) (ev_skip (et (sq (sq (ev_drawq [] mo (rdk_take 0 rfl (by kernel_rfl) trivial (q_load ttOk rfl) rfl (rdk_take 1 rfl (by kernel_rfl) trivial (q_load ttOk rfl) rfl (rdk_one 2 (by kernel_rfl) (rdo_call (nm := 24) rfl trivial (cf rfl) (t_log n (by assumption)) (rs_of rfl) rfl rfl rfl (rdk_one 3 (by kernel_rfl) (rdo_call (nm := 25) rfl trivial (cf rfl) (e_log n) (rs_of rfl) rfl rfl rfl (rdk_take 4 rfl (by kernel_rfl) trivial (q_notL rfl) rfl (rdk_endq (by kernel_rfl) (et (ev_cond_kf rfl rfl (ev_skip (et ?_))))))))))))))))))))))))))))))))))))))))))))))))))
   refine ev_pr [2] rfl (sq (rg (xs rfl rfl (nl (et (ev_ret (ret_pure' ttOk rfl rfl ?_)))))))
   rfl

end Go.Proofs.YtpbhcdgdabfhfaaGreat
