/- Walks of functions of the program, printed by a program of the prover. -/
import Derived.Test.YtpbhcdgdabfhfaaF20
namespace Go.Proofs.Ytpbhcdgdabfhfaa
open Go.ChangeShapes Go.WideShapes Go.ChangeAt Go.RowKit
set_option linter.unusedVariables false
set_option linter.unusedSimpArgs false
set_option maxHeartbeats 1000000
set_option maxRecDepth 100000
attribute [local irreducible] EvL Ev EvE Quiet Eff Pure RDk RDb RDo
theorem L_SameLog (x y : LogN) : Pure Try.prog 3 [many (logC x), many (logC y)] (bR true) := by
  refine pure_intro (N := 45) Try.func3 rfl rfl rfl rfl (fun H w => ?_)
  (repeat refine sq ?_)
  refine rg ?_
  refine evl_e (e_box rfl rfl rfl rfl) ?_
  refine evl_e (e_box rfl rfl rfl rfl) ?_
  refine xs rfl rfl ?_
  refine nl ?_
  (repeat first | refine et ?_ | refine eb ?_)
  (repeat refine sq ?_)
  refine rg ?_
  refine xs rfl rfl ?_
  refine nl ?_
  (repeat first | refine et ?_ | refine eb ?_)
  (repeat refine sq ?_)
  refine rg ?_
  refine xl ttOk rfl rfl ?_
  refine xm rfl rfl ?_
  first | refine evl_call (nm := 12) (cf rfl) (z_log x _ (by omega)) (rs_of rfl) rfl rfl rfl ?_ | refine evl_call (nm := 12) (cf rfl) (z_log y _ (by omega)) (rs_of rfl) rfl rfl rfl ?_
  refine xs rfl rfl ?_
  refine nl ?_
  (repeat first | refine et ?_ | refine eb ?_)
  (repeat refine sq ?_)
  refine rg ?_
  refine xm rfl rfl ?_
  refine xb ttOk rfl rfl ?_
  refine nl ?_
  (repeat first | refine et ?_ | refine eb ?_)
  (repeat refine sq ?_)
  refine ev_cond rfl (fun h1 => ?_) (fun h1 => ?_)
  · have d1 := of_decide_eq_true h1
    (repeat refine sq ?_)
    refine rg ?_
    refine xs rfl rfl ?_
    refine nl ?_
    (repeat first | refine et ?_ | refine eb ?_)
    (repeat refine sq ?_)
    refine ev_ret ?_
    (repeat first | refine evr_then ?_ | refine evr_blk ?_)
    refine ret_pure' ttOk rfl rfl ?_
    rfl
  · have d1 := of_decide_eq_false h1
    have e1 := szB_pos d1
    (repeat refine sq ?_)
    refine ev_skip ?_
    (repeat first | refine et ?_ | refine eb ?_)
    (repeat refine sq ?_)
    refine rg ?_
    refine xl ttOk rfl rfl ?_
    refine xm rfl rfl ?_
    first | refine evl_call (nm := 17) (cf rfl) (z_log x _ (by omega)) (rs_of rfl) rfl rfl rfl ?_ | refine evl_call (nm := 17) (cf rfl) (z_log y _ (by omega)) (rs_of rfl) rfl rfl rfl ?_
    refine xs rfl rfl ?_
    refine nl ?_
    (repeat first | refine et ?_ | refine eb ?_)
    (repeat refine sq ?_)
    refine rg ?_
    refine xm rfl rfl ?_
    refine xb ttOk rfl rfl ?_
    refine nl ?_
    (repeat first | refine et ?_ | refine eb ?_)
    (repeat refine sq ?_)
    refine ev_cond rfl (fun h2 => ?_) (fun h2 => ?_)
    · have d2 := of_decide_eq_true h2
      (repeat refine sq ?_)
      refine rg ?_
      refine xs rfl rfl ?_
      refine nl ?_
      (repeat first | refine et ?_ | refine eb ?_)
      (repeat refine sq ?_)
      refine ev_ret ?_
      (repeat first | refine evr_then ?_ | refine evr_blk ?_)
      refine ret_pure' ttOk rfl rfl ?_
      rfl
    · have d2 := of_decide_eq_false h2
      have e2 := szB_pos d2
      have hT : logSz x ≤ 1048576 := by omega
      have hT2 : logSz y ≤ 1048576 := by omega
      (repeat refine sq ?_)
      refine ev_skip ?_
      (repeat first | refine et ?_ | refine eb ?_)
      (repeat refine sq ?_)
      refine ev_drawq [] mo ?_
      refine rdk_take 0 rfl (by kernel_rfl) trivial (q_load ttOk rfl) rfl ?_
      refine rdk_take 2 rfl (by kernel_rfl) trivial (q_load ttOk rfl) rfl ?_
      refine rdk_one 1 (by kernel_rfl) ?_
      first | refine rdo_call (nm := 21) rfl trivial (cf rfl) (t_log x (by assumption)) (rs_of rfl) rfl rfl rfl ?_ | refine rdo_call (nm := 21) rfl trivial (cf rfl) (t_log y (by assumption)) (rs_of rfl) rfl rfl rfl ?_
      refine rdk_one 3 (by kernel_rfl) ?_
      first | refine rdo_call (nm := 23) rfl trivial (cf rfl) (t_log x (by assumption)) (rs_of rfl) rfl rfl rfl ?_ | refine rdo_call (nm := 23) rfl trivial (cf rfl) (t_log y (by assumption)) (rs_of rfl) rfl rfl rfl ?_
      refine rdk_one 4 (by kernel_rfl) ?_
      refine rdo_call (nm := 24) rfl trivial (cf rfl) (c_SameLog x y) (rs_of rfl) rfl rfl rfl ?_
      refine rdk_take 5 rfl (by kernel_rfl) trivial (q_assign rfl) rfl ?_
      refine rdk_endq (by kernel_rfl) ?_
      (repeat first | refine et ?_ | refine eb ?_)
      (repeat refine sq ?_)
      refine rg ?_
      refine xl ttOk rfl rfl ?_
      first | refine evl_call (nm := 26) (cf rfl) (t_log x (by assumption)) (rs_of rfl) rfl rfl rfl ?_ | refine evl_call (nm := 26) (cf rfl) (t_log y (by assumption)) (rs_of rfl) rfl rfl rfl ?_
      refine evl_e (e_alloc ttOk rfl rfl rfl rfl) ?_
      refine xst ttOk rfl ?_ rfl
      refine nl ?_
      (repeat first | refine et ?_ | refine eb ?_)
      (repeat refine sq ?_)
      refine ev_pr [2, 3, 4, 6, 7, 8, 9, 27, 28, 29, 30, 31, 32, 33, 34, 35, 36, 37, 38, 39, 40, 41, 42, 43, 44] rfl ?_
      refine rg ?_
      refine xl ttOk rfl rfl ?_
      first | refine evl_call (nm := 28) (cf rfl) (t_log x (by assumption)) (rs_of rfl) rfl rfl rfl ?_ | refine evl_call (nm := 28) (cf rfl) (t_log y (by assumption)) (rs_of rfl) rfl rfl rfl ?_
      refine evl_e (e_alloc ttOk rfl rfl rfl rfl) ?_
      refine xst ttOk rfl ?_ rfl
      refine nl ?_
      (repeat first | refine et ?_ | refine eb ?_)
      (repeat refine sq ?_)
      refine rg ?_
      refine xl ttOk rfl rfl ?_
      refine xl ttOk rfl rfl ?_
      refine evl_call (nm := 31) (cf rfl) (c_SameLog' x y) (rs_of rfl) rfl rfl rfl ?_
      refine xs rfl rfl ?_
      refine nl ?_
      (repeat first | refine et ?_ | refine eb ?_)
      (repeat refine sq ?_)
      refine rg ?_
      refine xm rfl rfl ?_
      refine xm rfl rfl ?_
      refine xb ttOk rfl rfl ?_
      refine nl ?_
      (repeat first | refine et ?_ | refine eb ?_)
      (repeat refine sq ?_)
      refine ev_cond_kf rfl (by simp) ?_
      (repeat refine sq ?_)
      refine ev_skip ?_
      (repeat first | refine et ?_ | refine eb ?_)
      (repeat refine sq ?_)
      refine ev_drawq [] mo ?_
      refine rdk_take 0 rfl (by kernel_rfl) trivial (q_load ttOk rfl) rfl ?_
      refine rdk_take 1 rfl (by kernel_rfl) trivial (q_load ttOk rfl) rfl ?_
      refine rdk_one 2 (by kernel_rfl) ?_
      first | refine rdo_call (nm := 37) rfl trivial (cf rfl) (t_log x (by assumption)) (rs_of rfl) rfl rfl rfl ?_ | refine rdo_call (nm := 37) rfl trivial (cf rfl) (t_log y (by assumption)) (rs_of rfl) rfl rfl rfl ?_
      refine rdk_one 3 (by kernel_rfl) ?_
      first | refine rdo_call (nm := 38) rfl trivial (cf rfl) (e_log x) (rs_of rfl) rfl rfl rfl ?_ | refine rdo_call (nm := 38) rfl trivial (cf rfl) (e_log y) (rs_of rfl) rfl rfl rfl ?_
      refine rdk_take 4 rfl (by kernel_rfl) trivial (q_notL rfl) rfl ?_
      refine rdk_endq (by kernel_rfl) ?_
      (repeat first | refine et ?_ | refine eb ?_)
      (repeat refine sq ?_)
      refine ev_cond_kf rfl rfl ?_
      (repeat refine sq ?_)
      refine ev_skip ?_
      (repeat first | refine et ?_ | refine eb ?_)
      (repeat refine sq ?_)
      refine ev_drawq [] mo ?_
      refine rdk_take 0 rfl (by kernel_rfl) trivial (q_load ttOk rfl) rfl ?_
      refine rdk_take 1 rfl (by kernel_rfl) trivial (q_load ttOk rfl) rfl ?_
      refine rdk_one 2 (by kernel_rfl) ?_
      first | refine rdo_call (nm := 42) rfl trivial (cf rfl) (t_log x (by assumption)) (rs_of rfl) rfl rfl rfl ?_ | refine rdo_call (nm := 42) rfl trivial (cf rfl) (t_log y (by assumption)) (rs_of rfl) rfl rfl rfl ?_
      refine rdk_one 3 (by kernel_rfl) ?_
      first | refine rdo_call (nm := 43) rfl trivial (cf rfl) (e_log x) (rs_of rfl) rfl rfl rfl ?_ | refine rdo_call (nm := 43) rfl trivial (cf rfl) (e_log y) (rs_of rfl) rfl rfl rfl ?_
      refine rdk_take 4 rfl (by kernel_rfl) trivial (q_notL rfl) rfl ?_
      refine rdk_endq (by kernel_rfl) ?_
      (repeat first | refine et ?_ | refine eb ?_)
      (repeat refine sq ?_)
      refine ev_cond_kf rfl rfl ?_
      (repeat refine sq ?_)
      refine ev_skip ?_
      (repeat first | refine et ?_ | refine eb ?_)
      (repeat refine sq ?_)
      refine rg ?_
      refine xs rfl rfl ?_
      refine nl ?_
      (repeat first | refine et ?_ | refine eb ?_)
      (repeat refine sq ?_)
      refine ev_ret ?_
      (repeat first | refine evr_then ?_ | refine evr_blk ?_)
      refine ret_pure' ttOk rfl rfl ?_
      rfl

end Go.Proofs.Ytpbhcdgdabfhfaa
