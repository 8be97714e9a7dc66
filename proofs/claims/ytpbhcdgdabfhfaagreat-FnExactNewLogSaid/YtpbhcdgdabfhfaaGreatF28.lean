/- Walks of functions of the program, printed by a program of the prover. -/
import Derived.Test.YtpbhcdgdabfhfaaGreatF27
namespace Go.Proofs.YtpbhcdgdabfhfaaGreat
open Go.ChangeShapes Go.WideShapes Go.ChangeAt Go.RowKit
set_option linter.unusedVariables false
set_option linter.unusedSimpArgs false
set_option maxHeartbeats 1000000
set_option maxRecDepth 100000
attribute [local irreducible] EvL Ev EvE Quiet Eff Pure RDk RDb RDo
theorem newKept_ok : smT newKeptF := by
  have h : twoOk newKeptF = true := by kernel_rfl
  exact smT_ok h
theorem newLog_sm : smL newLogF := ⟨newKept_ok, by decide, by decide, by decide, by decide, by decide⟩
theorem L_NewLog  : Pure Tryz.prog 3 [] (bR true) := by
  refine pure_intro (N := 36) Tryz.func3 rfl rfl rfl rfl (fun H w => ?_)
  have hq7 := q_at (q := 1) (n := newLogF) (by omega) newLog_sm
  (repeat refine sq ?_)
  refine rg ?_
  refine xs rfl rfl ?_
  refine nl ?_
  (repeat first | refine et ?_ | refine eb ?_)
  (repeat refine sq ?_)
  refine rg ?_
  refine evl_call (nm := 6) (cf rfl) (c_NewLog) (rs_of rfl) rfl rfl rfl ?_
  refine evl_e (e_alloc ttOk rfl rfl rfl rfl) ?_
  refine xst ttOk rfl ?_ rfl
  refine nl ?_
  (repeat first | refine et ?_ | refine eb ?_)
  (repeat refine sq ?_)
  refine rg ?_
  refine evl_call (nm := 7) (cf rfl) (c_NewLog') (rs_of rfl) rfl rfl rfl ?_
  refine evl_e (e_alloc ttOk rfl rfl rfl rfl) ?_
  refine xst ttOk rfl ?_ rfl
  refine nl ?_
  (repeat first | refine et ?_ | refine eb ?_)
  (repeat refine sq ?_)
  refine rg ?_
  refine xl ttOk rfl rfl ?_
  refine xl ttOk rfl rfl ?_
  refine evl_call (nm := 10) (cf rfl) (e_log newLogF) (rs_of rfl) rfl rfl rfl ?_
  refine xo (q_notL rfl) rfl ?_
  refine nl ?_
  (repeat first | refine et ?_ | refine eb ?_)
  (repeat refine sq ?_)
  refine ev_cond_kf rfl rfl ?_
  (repeat refine sq ?_)
  refine ev_skip ?_
  (repeat first | refine et ?_ | refine eb ?_)
  (repeat refine sq ?_)
  refine rg ?_
  refine xs rfl rfl ?_
  refine nl ?_
  (repeat first | refine et ?_ | refine eb ?_)
  (repeat refine sq ?_)
  refine rg ?_
  refine xl ttOk rfl rfl ?_
  refine xm rfl rfl ?_
  refine evl_mark (cf rfl) rfl rfl rfl (m_log _ _ _ _ _ _ _ _ _ newLogF 1 (by omega) newLog_sm) rfl rfl rfl ?_
  refine xs rfl rfl ?_
  refine nl ?_
  (repeat first | refine et ?_ | refine eb ?_)
  (repeat refine sq ?_)
  refine rg ?_
  refine xs rfl rfl ?_
  refine nl ?_
  (repeat first | refine et ?_ | refine eb ?_)
  (repeat refine sq ?_)
  refine rg ?_
  refine xl ttOk rfl rfl ?_
  refine xm rfl rfl ?_
  refine evl_call (nm := 17) (cf rfl) (h_log newLogF 1 _ rfl (by omega) newLog_sm) (rs_of rfl) rfl rfl rfl ?_
  refine xs rfl rfl ?_
  refine nl ?_
  (repeat first | refine et ?_ | refine eb ?_)
  (repeat refine sq ?_)
  refine rg ?_
  refine xm rfl rfl ?_
  refine xb ttOk rfl rfl ?_
  refine nl ?_
  (repeat first | refine et ?_ | refine eb ?_)
  (repeat refine sq ?_)
  refine ev_cond_kf rfl (decide_eq_false (by omega)) ?_
  (repeat refine sq ?_)
  refine ev_skip ?_
  (repeat first | refine et ?_ | refine eb ?_)
  (repeat refine sq ?_)
  refine rg ?_
  refine xm rfl rfl ?_
  refine xm rfl rfl ?_
  refine xb ttOk rfl rfl ?_
  refine nl ?_
  (repeat first | refine et ?_ | refine eb ?_)
  (repeat refine sq ?_)
  refine ev_cond_kf rfl (decide_eq_false (by omega)) ?_
  (repeat refine sq ?_)
  refine ev_skip ?_
  (repeat first | refine et ?_ | refine eb ?_)
  (repeat refine sq ?_)
  refine rg ?_
  refine evl_call (nm := 23) (cf rfl) (c_NewLog') (rs_of rfl) rfl rfl rfl ?_
  refine evl_e (e_alloc ttOk rfl rfl rfl rfl) ?_
  refine xst ttOk rfl ?_ rfl
  refine nl ?_
  (repeat first | refine et ?_ | refine eb ?_)
  (repeat refine sq ?_)
  refine ev_pr [0, 1, 2, 3, 4, 5, 24, 25, 26, 27, 28, 29, 30, 31, 32, 33, 34, 35] rfl ?_
  refine rg ?_
  refine xl ttOk rfl rfl ?_
  refine xl ttOk rfl rfl ?_
  refine evl_call (nm := 26) (cf rfl) (e_log newLogF) (rs_of rfl) rfl rfl rfl ?_
  refine xo (q_notL rfl) rfl ?_
  refine nl ?_
  (repeat first | refine et ?_ | refine eb ?_)
  (repeat refine sq ?_)
  refine ev_cond_kf rfl rfl ?_
  (repeat refine sq ?_)
  refine ev_skip ?_
  (repeat first | refine et ?_ | refine eb ?_)
  (repeat refine sq ?_)
  refine rg ?_
  refine xs rfl rfl ?_
  refine nl ?_
  (repeat first | refine et ?_ | refine eb ?_)
  (repeat refine sq ?_)
  refine rg ?_
  refine xl ttOk rfl rfl ?_
  refine xm rfl rfl ?_
  refine evl_call (nm := 30) (cf rfl) (h_log newLogF 1 _ rfl (by omega) newLog_sm) (rs_of rfl) rfl rfl rfl ?_
  refine xs rfl rfl ?_
  refine nl ?_
  (repeat first | refine et ?_ | refine eb ?_)
  (repeat refine sq ?_)
  refine rg ?_
  refine xm rfl rfl ?_
  refine xb ttOk rfl rfl ?_
  refine nl ?_
  (repeat first | refine et ?_ | refine eb ?_)
  (repeat refine sq ?_)
  refine ev_cond_kf rfl (decide_eq_false (by omega)) ?_
  (repeat refine sq ?_)
  refine ev_skip ?_
  (repeat first | refine et ?_ | refine eb ?_)
  (repeat refine sq ?_)
  refine rg ?_
  refine xm rfl rfl ?_
  refine xm rfl rfl ?_
  refine xb ttOk rfl rfl ?_
  refine nl ?_
  (repeat first | refine et ?_ | refine eb ?_)
  (repeat refine sq ?_)
  refine ev_cond_kf rfl (decide_eq_false (by omega)) ?_
  (repeat refine sq ?_)
  refine ev_skip ?_
  (repeat first | refine et ?_ | refine eb ?_)
  (repeat refine sq ?_)
  refine rg ?_
  refine xs rfl rfl ?_
  refine nl ?_
  (repeat first | refine et ?_ | refine eb ?_)
  (repeat refine sq ?_)
  refine ev_ret ?_
  (repeat first | refine evr_then ?_ | refine evr_blk ?_)
  refine ret_pure' ttOk rfl rfl ?_
  rfl

end Go.Proofs.YtpbhcdgdabfhfaaGreat
