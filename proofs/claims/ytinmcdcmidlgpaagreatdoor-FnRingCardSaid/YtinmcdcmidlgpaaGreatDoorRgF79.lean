/- Walks of functions of the program, printed by a program of the prover. -/
import Derived.Test.YtinmcdcmidlgpaaGreatDoorRgF76
namespace Go.Proofs.YtinmcdcmidlgpaaGreatDoor
open Go.ChangeShapes Go.WideShapes Go.ChangeAt Go.RowKit
set_option linter.unusedVariables false
set_option linter.unusedSimpArgs false
set_option maxHeartbeats 1000000
set_option maxRecDepth 100000
attribute [local irreducible] EvL Ev EvE Quiet Eff Pure RDk RDb RDo
theorem c_w9Begins (x y : List Entry) (h : x.take y.length = y) : Pure Tryz.prog 36 [one (entries x), one (entries y)] (bR true) := by
 refine pure_intro (N := 18) Tryz.func36 rfl rfl rfl rfl (fun H w => ?_)
 have hle : y.length ≤ x.length := by rw [← h, List.length_take]; omega
 have sw : eqN Entry.nums (x.take y.length) y = true := by rw [h]; exact eqN_refl
 refine sq (rg (xs rfl rfl (nl (et (sq (rg (xm rfl rfl (xo (q_len_map ttOk rfl rfl) rfl (xm rfl rfl (xo (q_len_map ttOk rfl rfl) rfl (xb ttOk rfl rfl (xm rfl rfl (gm (decide_eq_true om) rfl rfl rfl rfl (gm (decide_eq_true om) rfl rfl rfl rfl (go (decide_eq_true om) rfl rfl (q_len_map ttOk rfl rfl) rfl (go (decide_eq_true om) rfl rfl (q_sl_to_map (k := y.length) ttOk rfl rfl rfl rfl om) rfl (gm (decide_eq_true om) rfl rfl rfl rfl (evl_callg rfl rfl (decide_eq_true om) (nm := 16) (cf rfl) (c_w9Same (x.take y.length) y) (rs_of rfl) rfl rfl rfl (xo (q_pick_t rfl (decide_eq_true om) rfl) rfl (xs rfl rfl (nl (et (ev_ret (ret_pure' ttOk rfl rfl ?_))))))))))))))))))))))))
 exact congrArg bR sw
end Go.Proofs.YtinmcdcmidlgpaaGreatDoor
