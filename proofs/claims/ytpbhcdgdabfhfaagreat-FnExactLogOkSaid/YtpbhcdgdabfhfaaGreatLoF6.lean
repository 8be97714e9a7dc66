/- Walks of functions of the program, printed by a program of the prover. -/
import Derived.Test.YtpbhcdgdabfhfaaGreatLoF5
namespace Go.Proofs.YtpbhcdgdabfhfaaGreat
open Go.ChangeShapes Go.WideShapes Go.ChangeAt Go.RowKit
set_option linter.unusedVariables false
set_option linter.unusedSimpArgs false
set_option maxHeartbeats 1000000
set_option maxRecDepth 100000
attribute [local irreducible] EvL Ev EvE Quiet Eff Pure RDk RDb RDo
@[reducible] def rowsR (l : List (List Int)) : RC := .s 80 1 (l.map fun r => [ints r])
@[reducible] def writesR (l : List (Int × List Int)) : RC := .s 214 2 (l.map fun x => [iC x.1, ints x.2])
@[reducible] def diskR (d : Disk) : List RC := [rowsR d.kept, writesR d.wait]
@[reducible] def twoR (t : Two) : List RC := [rowsR t.a.kept, writesR t.a.wait, rowsR t.b.kept, writesR t.b.wait]
theorem c_TwoOk (t : Two) : Pure Tryz.prog 142 [many (twoC t)] (bR (twoOk t)) := by
 refine pure_intro (N := 22) Tryz.func142 rfl rfl rfl rfl (fun H w => ?_)
 refine sq (rg (evl_e (e_box rfl rfl rfl rfl) (xs rfl rfl (nl (et (sq (rg (xf ttOk rfl rfl (xl ttOk rfl rfl (evl_call (nm := 5) (cf rfl) (c_DiskOk ⟨_, _⟩) (rs_of rfl) rfl rfl rfl (xm rfl rfl (evl_part rfl rfl (fun h1 => ?_) (fun h1 => ?_)))))))))))))
 · refine go h1 rfl rfl (q_fieldAddr ttOk rfl) rfl (go h1 rfl rfl (q_load ttOk rfl) rfl (evl_callg rfl rfl h1 (nm := 9) (cf rfl) (c_DiskOk ⟨_, _⟩) (rs_of rfl) rfl rfl rfl (xo (q_pick_t rfl h1 rfl) rfl (xm rfl rfl (evl_part rfl rfl (fun h2 => ?_) (fun h2 => ?_))))))
   · refine go h2 rfl rfl (q_fieldAddr ttOk rfl) rfl (go h2 rfl rfl (q_fieldAddr ttOk rfl) rfl (go h2 rfl rfl (q_load ttOk rfl) rfl (go h2 rfl rfl (q_len_map ttOk rfl rfl) rfl (go h2 rfl rfl (q_fieldAddr ttOk rfl) rfl (go h2 rfl rfl (q_fieldAddr ttOk rfl) rfl (go h2 rfl rfl (q_load ttOk rfl) rfl (go h2 rfl rfl (q_len_map ttOk rfl rfl) rfl (go h2 rfl rfl (q_bin ttOk rfl) rfl (xo (q_pick_t rfl h2 rfl) rfl (xs rfl rfl (nl (et (ev_ret (ret_pure' ttOk rfl rfl (congrArg bR (?_ : _ = _))))))))))))))))
     simp [twoOk, h1, h2]; omega
   · refine gn h2 rfl rfl rfl (gn h2 rfl rfl rfl (gn h2 rfl rfl rfl (gn h2 rfl rfl rfl (gn h2 rfl rfl rfl (gn h2 rfl rfl rfl (gn h2 rfl rfl rfl (gn h2 rfl rfl rfl (gn h2 rfl rfl rfl (xo (q_pick_f rfl h2 rfl) rfl (xs rfl rfl (nl (et (ev_ret (ret_pure' ttOk rfl rfl (congrArg bR (?_ : _ = _))))))))))))))))
     simp [twoOk, h1, h2]
 · refine gn h1 rfl rfl rfl (gn h1 rfl rfl rfl (gn h1 rfl rfl rfl (xo (q_pick_f rfl h1 rfl) rfl (xm rfl rfl (gn rfl rfl rfl rfl (gn rfl rfl rfl rfl (gn rfl rfl rfl rfl (gn rfl rfl rfl rfl (gn rfl rfl rfl rfl (gn rfl rfl rfl rfl (gn rfl rfl rfl rfl (gn rfl rfl rfl rfl (gn rfl rfl rfl rfl (xo (q_pick_f rfl rfl rfl) rfl (xs rfl rfl (nl (et (ev_ret (ret_pure' ttOk rfl rfl (congrArg bR (?_ : _ = _)))))))))))))))))))))
   simp [twoOk, h1]
theorem c_TwoOk' (t : Two) : Pure Tryz.prog 152 [many (twoC t)] (bR (twoOk t)) := by
 refine pure_intro (N := 22) Tryz.func152 rfl rfl rfl rfl (fun H w => ?_)
 refine sq (rg (evl_e (e_box rfl rfl rfl rfl) (xs rfl rfl (nl (et (sq (rg (xf ttOk rfl rfl (xl ttOk rfl rfl (evl_call (nm := 5) (cf rfl) (c_DiskOk' ⟨_, _⟩) (rs_of rfl) rfl rfl rfl (xm rfl rfl (evl_part rfl rfl (fun h1 => ?_) (fun h1 => ?_)))))))))))))
 · refine go h1 rfl rfl (q_fieldAddr ttOk rfl) rfl (go h1 rfl rfl (q_load ttOk rfl) rfl (evl_callg rfl rfl h1 (nm := 9) (cf rfl) (c_DiskOk' ⟨_, _⟩) (rs_of rfl) rfl rfl rfl (xo (q_pick_t rfl h1 rfl) rfl (xm rfl rfl (evl_part rfl rfl (fun h2 => ?_) (fun h2 => ?_))))))
   · refine go h2 rfl rfl (q_fieldAddr ttOk rfl) rfl (go h2 rfl rfl (q_fieldAddr ttOk rfl) rfl (go h2 rfl rfl (q_load ttOk rfl) rfl (go h2 rfl rfl (q_len_map ttOk rfl rfl) rfl (go h2 rfl rfl (q_fieldAddr ttOk rfl) rfl (go h2 rfl rfl (q_fieldAddr ttOk rfl) rfl (go h2 rfl rfl (q_load ttOk rfl) rfl (go h2 rfl rfl (q_len_map ttOk rfl rfl) rfl (go h2 rfl rfl (q_bin ttOk rfl) rfl (xo (q_pick_t rfl h2 rfl) rfl (xs rfl rfl (nl (et (ev_ret (ret_pure' ttOk rfl rfl (congrArg bR (?_ : _ = _))))))))))))))))
     simp [twoOk, h1, h2]; omega
   · refine gn h2 rfl rfl rfl (gn h2 rfl rfl rfl (gn h2 rfl rfl rfl (gn h2 rfl rfl rfl (gn h2 rfl rfl rfl (gn h2 rfl rfl rfl (gn h2 rfl rfl rfl (gn h2 rfl rfl rfl (gn h2 rfl rfl rfl (xo (q_pick_f rfl h2 rfl) rfl (xs rfl rfl (nl (et (ev_ret (ret_pure' ttOk rfl rfl (congrArg bR (?_ : _ = _))))))))))))))))
     simp [twoOk, h1, h2]
 · refine gn h1 rfl rfl rfl (gn h1 rfl rfl rfl (gn h1 rfl rfl rfl (xo (q_pick_f rfl h1 rfl) rfl (xm rfl rfl (gn rfl rfl rfl rfl (gn rfl rfl rfl rfl (gn rfl rfl rfl rfl (gn rfl rfl rfl rfl (gn rfl rfl rfl rfl (gn rfl rfl rfl rfl (gn rfl rfl rfl rfl (gn rfl rfl rfl rfl (gn rfl rfl rfl rfl (xo (q_pick_f rfl rfl rfl) rfl (xs rfl rfl (nl (et (ev_ret (ret_pure' ttOk rfl rfl (congrArg bR (?_ : _ = _)))))))))))))))))))))
   simp [twoOk, h1]
theorem c_KeptOk (t : Two) : Pure Tryz.prog 71 [many (twoC t)] (bR (keptOk t)) := by
 refine pure_intro (N := 12) Tryz.func71 rfl rfl rfl rfl (fun H w => ?_)
 refine sq (rg (evl_e (e_box rfl rfl rfl rfl) (xs rfl rfl (nl (et (sq (rg (xl ttOk rfl rfl (evl_call (nm := 4) (cf rfl) (c_TwoOk ⟨⟨_, _⟩, ⟨_, _⟩⟩) (rs_of rfl) rfl rfl rfl (xm rfl rfl (evl_part rfl rfl (fun h1 => ?_) (fun h1 => ?_))))))))))))
 · refine go h1 rfl rfl (q_fieldAddr ttOk rfl) rfl (go h1 rfl rfl (q_fieldAddr ttOk rfl) rfl (go h1 rfl rfl (q_load ttOk rfl) rfl (go h1 rfl rfl (q_len_map ttOk rfl rfl) rfl (go h1 rfl rfl (q_bin ttOk rfl) rfl (xo (q_pick_t rfl h1 rfl) rfl (xs rfl rfl (nl (et (ev_ret (ret_pure' ttOk rfl rfl (congrArg bR (?_ : _ = _))))))))))))
   simp [keptOk, h1]; omega
 · refine gn h1 rfl rfl rfl (gn h1 rfl rfl rfl (gn h1 rfl rfl rfl (gn h1 rfl rfl rfl (gn h1 rfl rfl rfl (xo (q_pick_f rfl h1 rfl) rfl (xs rfl rfl (nl (et (ev_ret (ret_pure' ttOk rfl rfl (congrArg bR (?_ : _ = _))))))))))))
   simp [keptOk, h1]
theorem c_KeptOk' (t : Two) : Pure Tryz.prog 84 [many (twoC t)] (bR (keptOk t)) := by
 refine pure_intro (N := 12) Tryz.func84 rfl rfl rfl rfl (fun H w => ?_)
 refine sq (rg (evl_e (e_box rfl rfl rfl rfl) (xs rfl rfl (nl (et (sq (rg (xl ttOk rfl rfl (evl_call (nm := 4) (cf rfl) (c_TwoOk' ⟨⟨_, _⟩, ⟨_, _⟩⟩) (rs_of rfl) rfl rfl rfl (xm rfl rfl (evl_part rfl rfl (fun h1 => ?_) (fun h1 => ?_))))))))))))
 · refine go h1 rfl rfl (q_fieldAddr ttOk rfl) rfl (go h1 rfl rfl (q_fieldAddr ttOk rfl) rfl (go h1 rfl rfl (q_load ttOk rfl) rfl (go h1 rfl rfl (q_len_map ttOk rfl rfl) rfl (go h1 rfl rfl (q_bin ttOk rfl) rfl (xo (q_pick_t rfl h1 rfl) rfl (xs rfl rfl (nl (et (ev_ret (ret_pure' ttOk rfl rfl (congrArg bR (?_ : _ = _))))))))))))
   simp [keptOk, h1]; omega
 · refine gn h1 rfl rfl rfl (gn h1 rfl rfl rfl (gn h1 rfl rfl rfl (gn h1 rfl rfl rfl (gn h1 rfl rfl rfl (xo (q_pick_f rfl h1 rfl) rfl (xs rfl rfl (nl (et (ev_ret (ret_pure' ttOk rfl rfl (congrArg bR (?_ : _ = _))))))))))))
   simp [keptOk, h1]
end Go.Proofs.YtpbhcdgdabfhfaaGreat
