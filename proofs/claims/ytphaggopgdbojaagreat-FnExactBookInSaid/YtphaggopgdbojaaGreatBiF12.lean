/- Walks of functions of the program, printed by a program of the prover. -/
import Derived.Test.YtphaggopgdbojaaGreatBiF9
namespace Go.Proofs.YtphaggopgdbojaaGreat
open Go.ChangeShapes Go.WideShapes Go.ChangeAt Go.RowKit
set_option linter.unusedVariables false
set_option linter.unusedSimpArgs false
set_option maxHeartbeats 1000000
set_option maxRecDepth 100000
attribute [local irreducible] EvL Ev EvE Quiet Eff Pure RDk RDb RDo
structure Head where
  num : Int
  base : Int
  time : Int
  seen : List Mark
@[reducible] def headC (h : Head) : List C := [iC h.num, iC h.base, iC h.time, marks h.seen]
@[reducible] def marksR (l : List Mark) : RC := .s 148 3 (l.map markC)
@[reducible] def headR (h : Head) : List RC := [.v (.int .i64 h.num), .v (.int .i64 h.base), .v (.int .i64 h.time), marksR h.seen]
def headOk (h : Head) : Bool := inB h.base 0 2000 && (inB h.num 0 h.base && (timeOk h.time && ((decide (h.base > 0) || decide (h.time = 0)) && (seenOk h.seen && decide (lastF h.seen = h.base)))))
theorem c_HeadOk (h : Head) : Pure Tryz.prog 70 [many (headC h)] (bR (headOk h)) := by
 refine pure_intro (N := 41) Tryz.func70 rfl rfl rfl rfl (fun H w => ?_)
 refine sq (rg (evl_e (e_box rfl rfl rfl rfl) (xs rfl rfl (nl (et (sq (ev_drawq [] mo (rdk_take 0 rfl (by kernel_rfl) trivial (q_fieldAddr ttOk rfl) rfl (rdk_take 1 rfl (by kernel_rfl) trivial (q_load ttOk rfl) rfl (rdk_one 2 (by kernel_rfl) (rdo_call (nm := 5) rfl trivial (cf rfl) (c_l1In _ _ _) (rs_of rfl) rfl rfl rfl (rdk_take 3 rfl (by kernel_rfl) trivial (q_move rfl) rfl (rdk_part (t := 6) rfl (fun h1 => ?_) (fun h1 => ?_))))))))))))))
 · refine rdk_take 4 rfl (by kernel_rfl) ⟨_, _, rfl, rfl, h1⟩ (q_fieldAddr ttOk rfl) rfl (rdk_take 5 rfl (by kernel_rfl) ⟨_, _, rfl, rfl, h1⟩ (q_load ttOk rfl) rfl (rdk_take 6 rfl (by kernel_rfl) ⟨_, _, rfl, rfl, h1⟩ (q_fieldAddr ttOk rfl) rfl (rdk_take 7 rfl (by kernel_rfl) ⟨_, _, rfl, rfl, h1⟩ (q_load ttOk rfl) rfl (rdk_one 8 (by kernel_rfl) (rdo_call (nm := 11) rfl ⟨_, _, rfl, rfl, h1⟩ (cf rfl) (c_l1In _ _ _) (rs_of rfl) rfl rfl rfl (rdk_take 9 rfl (by kernel_rfl) trivial (q_pick_t rfl h1 rfl) rfl (rdk_take 10 rfl (by kernel_rfl) trivial (q_move rfl) rfl (rdk_part (t := 13) rfl (fun h2 => ?_) (fun h2 => ?_)))))))))
   · refine rdk_take 11 rfl (by kernel_rfl) ⟨_, _, rfl, rfl, h2⟩ (q_fieldAddr ttOk rfl) rfl (rdk_take 12 rfl (by kernel_rfl) ⟨_, _, rfl, rfl, h2⟩ (q_load ttOk rfl) rfl (rdk_one 13 (by kernel_rfl) (rdo_call (nm := 16) rfl ⟨_, _, rfl, rfl, h2⟩ (cf rfl) (c_TimeOk _) (rs_of rfl) rfl rfl rfl (rdk_take 14 rfl (by kernel_rfl) trivial (q_pick_t rfl h2 rfl) rfl (rdk_take 15 rfl (by kernel_rfl) trivial (q_move rfl) rfl (rdk_part (t := 18) rfl (fun h3 => ?_) (fun h3 => ?_)))))))
     · refine rdk_take 16 rfl (by kernel_rfl) ⟨_, _, rfl, rfl, h3⟩ (q_fieldAddr ttOk rfl) rfl (rdk_take 17 rfl (by kernel_rfl) ⟨_, _, rfl, rfl, h3⟩ (q_load ttOk rfl) rfl (rdk_take 18 rfl (by kernel_rfl) ⟨_, _, rfl, rfl, h3⟩ (q_bin ttOk rfl) rfl (rdk_take 19 rfl (by kernel_rfl) ⟨_, _, rfl, rfl, h3⟩ (q_move rfl) rfl (rdk_part (t := 22) rfl (fun h4 => ?_) (fun h4 => ?_)))))
       · refine rdk_skip 20 rfl (by kernel_rfl) ⟨_, rfl, .inl ⟨_, rfl, h4⟩⟩ rfl (rdk_skip 21 rfl (by kernel_rfl) ⟨_, rfl, .inl ⟨_, rfl, h4⟩⟩ rfl (rdk_skip 22 rfl (by kernel_rfl) ⟨_, rfl, .inl ⟨_, rfl, h4⟩⟩ rfl (rdk_take 23 rfl (by kernel_rfl) ⟨_, _, rfl, rfl, h3⟩ (q_pick_t rfl h4 rfl) rfl (rdk_take 24 rfl (by kernel_rfl) trivial (q_pick_t rfl h3 rfl) rfl (rdk_take 25 rfl (by kernel_rfl) trivial (q_move rfl) rfl (rdk_take 26 rfl (by kernel_rfl) ⟨_, _, rfl, rfl, rfl⟩ (q_fieldAddr ttOk rfl) rfl (rdk_take 27 rfl (by kernel_rfl) ⟨_, _, rfl, rfl, rfl⟩ (q_load ttOk rfl) rfl (rdk_one 28 (by kernel_rfl) (rdo_call (nm := 31) rfl ⟨_, _, rfl, rfl, rfl⟩ (cf rfl) (c_SeenOk _) (rs_of rfl) rfl rfl rfl (rdk_take 29 rfl (by kernel_rfl) trivial (q_pick_t rfl rfl rfl) rfl (rdk_take 30 rfl (by kernel_rfl) trivial (q_move rfl) rfl (rdk_part (t := 33) rfl (fun h5 => ?_) (fun h5 => ?_)))))))))))))
         · refine rdk_take 31 rfl (by kernel_rfl) ⟨_, _, rfl, rfl, h5⟩ (q_fieldAddr ttOk rfl) rfl (rdk_take 32 rfl (by kernel_rfl) ⟨_, _, rfl, rfl, h5⟩ (q_load ttOk rfl) rfl (rdk_take 34 rfl (by kernel_rfl) ⟨_, _, rfl, rfl, h5⟩ (q_fieldAddr ttOk rfl) rfl (rdk_take 35 rfl (by kernel_rfl) ⟨_, _, rfl, rfl, h5⟩ (q_load ttOk rfl) rfl (rdk_one 33 (by kernel_rfl) (rdo_call (nm := 36) rfl ⟨_, _, rfl, rfl, h5⟩ (cf rfl) (c_LastSeen _) (rs_of rfl) rfl rfl rfl (rdk_take 36 rfl (by kernel_rfl) ⟨_, _, rfl, rfl, h5⟩ (q_bin ttOk rfl) rfl (rdk_take 37 rfl (by kernel_rfl) trivial (q_pick_t rfl h5 rfl) rfl (rdk_take 38 rfl (by kernel_rfl) trivial (q_assign rfl) rfl (rdk_endq (by kernel_rfl) (et (ev_ret (ret_pure' ttOk rfl rfl (congrArg bR (?_ : _ = _))))))))))))))
           simp_all [headOk] <;> (intros; omega)
         · refine rdk_skip 31 rfl (by kernel_rfl) ⟨_, rfl, .inl ⟨_, rfl, h5⟩⟩ rfl (rdk_skip 32 rfl (by kernel_rfl) ⟨_, rfl, .inl ⟨_, rfl, h5⟩⟩ rfl (rdk_skip 33 rfl (by kernel_rfl) ⟨_, rfl, .inl ⟨_, rfl, h5⟩⟩ rfl (rdk_skip 34 rfl (by kernel_rfl) ⟨_, rfl, .inl ⟨_, rfl, h5⟩⟩ rfl (rdk_skip 35 rfl (by kernel_rfl) ⟨_, rfl, .inl ⟨_, rfl, h5⟩⟩ rfl (rdk_skip 36 rfl (by kernel_rfl) ⟨_, rfl, .inl ⟨_, rfl, h5⟩⟩ rfl (rdk_take 37 rfl (by kernel_rfl) trivial (q_pick_f rfl h5 rfl) rfl (rdk_take 38 rfl (by kernel_rfl) trivial (q_assign rfl) rfl (rdk_endq (by kernel_rfl) (et (ev_ret (ret_pure' ttOk rfl rfl (congrArg bR (?_ : _ = _)))))))))))))
           simp_all [headOk] <;> (intros; omega)
       · refine rdk_take 20 rfl (by kernel_rfl) ⟨_, _, rfl, rfl, h4⟩ (q_fieldAddr ttOk rfl) rfl (rdk_take 21 rfl (by kernel_rfl) ⟨_, _, rfl, rfl, h4⟩ (q_load ttOk rfl) rfl (rdk_take 22 rfl (by kernel_rfl) ⟨_, _, rfl, rfl, h4⟩ (q_bin ttOk rfl) rfl (rdk_take 23 rfl (by kernel_rfl) ⟨_, _, rfl, rfl, h3⟩ (q_pick_f rfl h4 rfl) rfl (rdk_take 24 rfl (by kernel_rfl) trivial (q_pick_t rfl h3 rfl) rfl (rdk_take 25 rfl (by kernel_rfl) trivial (q_move rfl) rfl (rdk_part (t := 28) rfl (fun h6 => ?_) (fun h6 => ?_)))))))
         · refine rdk_take 26 rfl (by kernel_rfl) ⟨_, _, rfl, rfl, h6⟩ (q_fieldAddr ttOk rfl) rfl (rdk_take 27 rfl (by kernel_rfl) ⟨_, _, rfl, rfl, h6⟩ (q_load ttOk rfl) rfl (rdk_one 28 (by kernel_rfl) (rdo_call (nm := 31) rfl ⟨_, _, rfl, rfl, h6⟩ (cf rfl) (c_SeenOk _) (rs_of rfl) rfl rfl rfl (rdk_take 29 rfl (by kernel_rfl) trivial (q_pick_t rfl h6 rfl) rfl (rdk_take 30 rfl (by kernel_rfl) trivial (q_move rfl) rfl (rdk_part (t := 33) rfl (fun h7 => ?_) (fun h7 => ?_)))))))
           · refine rdk_take 31 rfl (by kernel_rfl) ⟨_, _, rfl, rfl, h7⟩ (q_fieldAddr ttOk rfl) rfl (rdk_take 32 rfl (by kernel_rfl) ⟨_, _, rfl, rfl, h7⟩ (q_load ttOk rfl) rfl (rdk_take 34 rfl (by kernel_rfl) ⟨_, _, rfl, rfl, h7⟩ (q_fieldAddr ttOk rfl) rfl (rdk_take 35 rfl (by kernel_rfl) ⟨_, _, rfl, rfl, h7⟩ (q_load ttOk rfl) rfl (rdk_one 33 (by kernel_rfl) (rdo_call (nm := 36) rfl ⟨_, _, rfl, rfl, h7⟩ (cf rfl) (c_LastSeen _) (rs_of rfl) rfl rfl rfl (rdk_take 36 rfl (by kernel_rfl) ⟨_, _, rfl, rfl, h7⟩ (q_bin ttOk rfl) rfl (rdk_take 37 rfl (by kernel_rfl) trivial (q_pick_t rfl h7 rfl) rfl (rdk_take 38 rfl (by kernel_rfl) trivial (q_assign rfl) rfl (rdk_endq (by kernel_rfl) (et (ev_ret (ret_pure' ttOk rfl rfl (congrArg bR (?_ : _ = _))))))))))))))
             simp_all [headOk] <;> (intros; omega)
           · refine rdk_skip 31 rfl (by kernel_rfl) ⟨_, rfl, .inl ⟨_, rfl, h7⟩⟩ rfl (rdk_skip 32 rfl (by kernel_rfl) ⟨_, rfl, .inl ⟨_, rfl, h7⟩⟩ rfl (rdk_skip 33 rfl (by kernel_rfl) ⟨_, rfl, .inl ⟨_, rfl, h7⟩⟩ rfl (rdk_skip 34 rfl (by kernel_rfl) ⟨_, rfl, .inl ⟨_, rfl, h7⟩⟩ rfl (rdk_skip 35 rfl (by kernel_rfl) ⟨_, rfl, .inl ⟨_, rfl, h7⟩⟩ rfl (rdk_skip 36 rfl (by kernel_rfl) ⟨_, rfl, .inl ⟨_, rfl, h7⟩⟩ rfl (rdk_take 37 rfl (by kernel_rfl) trivial (q_pick_f rfl h7 rfl) rfl (rdk_take 38 rfl (by kernel_rfl) trivial (q_assign rfl) rfl (rdk_endq (by kernel_rfl) (et (ev_ret (ret_pure' ttOk rfl rfl (congrArg bR (?_ : _ = _)))))))))))))
             simp_all [headOk] <;> (intros; omega)
         · refine rdk_skip 26 rfl (by kernel_rfl) ⟨_, rfl, .inl ⟨_, rfl, h6⟩⟩ rfl (rdk_skip 27 rfl (by kernel_rfl) ⟨_, rfl, .inl ⟨_, rfl, h6⟩⟩ rfl (rdk_skip 28 rfl (by kernel_rfl) ⟨_, rfl, .inl ⟨_, rfl, h6⟩⟩ rfl (rdk_take 29 rfl (by kernel_rfl) trivial (q_pick_f rfl h6 rfl) rfl (rdk_take 30 rfl (by kernel_rfl) trivial (q_move rfl) rfl (rdk_skip 31 rfl (by kernel_rfl) ⟨_, rfl, .inl ⟨_, rfl, rfl⟩⟩ rfl (rdk_skip 32 rfl (by kernel_rfl) ⟨_, rfl, .inl ⟨_, rfl, rfl⟩⟩ rfl (rdk_skip 33 rfl (by kernel_rfl) ⟨_, rfl, .inl ⟨_, rfl, rfl⟩⟩ rfl (rdk_skip 34 rfl (by kernel_rfl) ⟨_, rfl, .inl ⟨_, rfl, rfl⟩⟩ rfl (rdk_skip 35 rfl (by kernel_rfl) ⟨_, rfl, .inl ⟨_, rfl, rfl⟩⟩ rfl (rdk_skip 36 rfl (by kernel_rfl) ⟨_, rfl, .inl ⟨_, rfl, rfl⟩⟩ rfl (rdk_take 37 rfl (by kernel_rfl) trivial (q_pick_f rfl rfl rfl) rfl (rdk_take 38 rfl (by kernel_rfl) trivial (q_assign rfl) rfl (rdk_endq (by kernel_rfl) (et (ev_ret (ret_pure' ttOk rfl rfl (congrArg bR (?_ : _ = _))))))))))))))))))
           simp_all [headOk] <;> (intros; omega)
     · refine rdk_skip 16 rfl (by kernel_rfl) ⟨_, rfl, .inl ⟨_, rfl, h3⟩⟩ rfl (rdk_skip 17 rfl (by kernel_rfl) ⟨_, rfl, .inl ⟨_, rfl, h3⟩⟩ rfl (rdk_skip 18 rfl (by kernel_rfl) ⟨_, rfl, .inl ⟨_, rfl, h3⟩⟩ rfl (rdk_skip 19 rfl (by kernel_rfl) ⟨_, rfl, .inl ⟨_, rfl, h3⟩⟩ rfl (rdk_skip 20 rfl (by kernel_rfl) ⟨_, rfl, .inr rfl⟩ rfl (rdk_skip 21 rfl (by kernel_rfl) ⟨_, rfl, .inr rfl⟩ rfl (rdk_skip 22 rfl (by kernel_rfl) ⟨_, rfl, .inr rfl⟩ rfl (rdk_skip 23 rfl (by kernel_rfl) ⟨_, rfl, .inl ⟨_, rfl, h3⟩⟩ rfl (rdk_take 24 rfl (by kernel_rfl) trivial (q_pick_f rfl h3 rfl) rfl (rdk_take 25 rfl (by kernel_rfl) trivial (q_move rfl) rfl (rdk_skip 26 rfl (by kernel_rfl) ⟨_, rfl, .inl ⟨_, rfl, rfl⟩⟩ rfl (rdk_skip 27 rfl (by kernel_rfl) ⟨_, rfl, .inl ⟨_, rfl, rfl⟩⟩ rfl (rdk_skip 28 rfl (by kernel_rfl) ⟨_, rfl, .inl ⟨_, rfl, rfl⟩⟩ rfl (rdk_take 29 rfl (by kernel_rfl) trivial (q_pick_f rfl rfl rfl) rfl (rdk_take 30 rfl (by kernel_rfl) trivial (q_move rfl) rfl (rdk_skip 31 rfl (by kernel_rfl) ⟨_, rfl, .inl ⟨_, rfl, rfl⟩⟩ rfl (rdk_skip 32 rfl (by kernel_rfl) ⟨_, rfl, .inl ⟨_, rfl, rfl⟩⟩ rfl (rdk_skip 33 rfl (by kernel_rfl) ⟨_, rfl, .inl ⟨_, rfl, rfl⟩⟩ rfl (rdk_skip 34 rfl (by kernel_rfl) ⟨_, rfl, .inl ⟨_, rfl, rfl⟩⟩ rfl (rdk_skip 35 rfl (by kernel_rfl) ⟨_, rfl, .inl ⟨_, rfl, rfl⟩⟩ rfl (rdk_skip 36 rfl (by kernel_rfl) ⟨_, rfl, .inl ⟨_, rfl, rfl⟩⟩ rfl (rdk_take 37 rfl (by kernel_rfl) trivial (q_pick_f rfl rfl rfl) rfl (rdk_take 38 rfl (by kernel_rfl) trivial (q_assign rfl) rfl (rdk_endq (by kernel_rfl) (et (ev_ret (ret_pure' ttOk rfl rfl (congrArg bR (?_ : _ = _))))))))))))))))))))))))))))
       simp_all [headOk] <;> (intros; omega)
   · refine rdk_skip 11 rfl (by kernel_rfl) ⟨_, rfl, .inl ⟨_, rfl, h2⟩⟩ rfl (rdk_skip 12 rfl (by kernel_rfl) ⟨_, rfl, .inl ⟨_, rfl, h2⟩⟩ rfl (rdk_skip 13 rfl (by kernel_rfl) ⟨_, rfl, .inl ⟨_, rfl, h2⟩⟩ rfl (rdk_take 14 rfl (by kernel_rfl) trivial (q_pick_f rfl h2 rfl) rfl (rdk_take 15 rfl (by kernel_rfl) trivial (q_move rfl) rfl (rdk_skip 16 rfl (by kernel_rfl) ⟨_, rfl, .inl ⟨_, rfl, rfl⟩⟩ rfl (rdk_skip 17 rfl (by kernel_rfl) ⟨_, rfl, .inl ⟨_, rfl, rfl⟩⟩ rfl (rdk_skip 18 rfl (by kernel_rfl) ⟨_, rfl, .inl ⟨_, rfl, rfl⟩⟩ rfl (rdk_skip 19 rfl (by kernel_rfl) ⟨_, rfl, .inl ⟨_, rfl, rfl⟩⟩ rfl (rdk_skip 20 rfl (by kernel_rfl) ⟨_, rfl, .inr rfl⟩ rfl (rdk_skip 21 rfl (by kernel_rfl) ⟨_, rfl, .inr rfl⟩ rfl (rdk_skip 22 rfl (by kernel_rfl) ⟨_, rfl, .inr rfl⟩ rfl (rdk_skip 23 rfl (by kernel_rfl) ⟨_, rfl, .inl ⟨_, rfl, rfl⟩⟩ rfl (rdk_take 24 rfl (by kernel_rfl) trivial (q_pick_f rfl rfl rfl) rfl (rdk_take 25 rfl (by kernel_rfl) trivial (q_move rfl) rfl (rdk_skip 26 rfl (by kernel_rfl) ⟨_, rfl, .inl ⟨_, rfl, rfl⟩⟩ rfl (rdk_skip 27 rfl (by kernel_rfl) ⟨_, rfl, .inl ⟨_, rfl, rfl⟩⟩ rfl (rdk_skip 28 rfl (by kernel_rfl) ⟨_, rfl, .inl ⟨_, rfl, rfl⟩⟩ rfl (rdk_take 29 rfl (by kernel_rfl) trivial (q_pick_f rfl rfl rfl) rfl (rdk_take 30 rfl (by kernel_rfl) trivial (q_move rfl) rfl (rdk_skip 31 rfl (by kernel_rfl) ⟨_, rfl, .inl ⟨_, rfl, rfl⟩⟩ rfl (rdk_skip 32 rfl (by kernel_rfl) ⟨_, rfl, .inl ⟨_, rfl, rfl⟩⟩ rfl (rdk_skip 33 rfl (by kernel_rfl) ⟨_, rfl, .inl ⟨_, rfl, rfl⟩⟩ rfl (rdk_skip 34 rfl (by kernel_rfl) ⟨_, rfl, .inl ⟨_, rfl, rfl⟩⟩ rfl (rdk_skip 35 rfl (by kernel_rfl) ⟨_, rfl, .inl ⟨_, rfl, rfl⟩⟩ rfl (rdk_skip 36 rfl (by kernel_rfl) ⟨_, rfl, .inl ⟨_, rfl, rfl⟩⟩ rfl (rdk_take 37 rfl (by kernel_rfl) trivial (q_pick_f rfl rfl rfl) rfl (rdk_take 38 rfl (by kernel_rfl) trivial (q_assign rfl) rfl (rdk_endq (by kernel_rfl) (et (ev_ret (ret_pure' ttOk rfl rfl (congrArg bR (?_ : _ = _)))))))))))))))))))))))))))))))))
     simp_all [headOk] <;> (intros; omega)
 · refine rdk_skip 4 rfl (by kernel_rfl) ⟨_, rfl, .inl ⟨_, rfl, h1⟩⟩ rfl (rdk_skip 5 rfl (by kernel_rfl) ⟨_, rfl, .inl ⟨_, rfl, h1⟩⟩ rfl (rdk_skip 6 rfl (by kernel_rfl) ⟨_, rfl, .inl ⟨_, rfl, h1⟩⟩ rfl (rdk_skip 7 rfl (by kernel_rfl) ⟨_, rfl, .inl ⟨_, rfl, h1⟩⟩ rfl (rdk_skip 8 rfl (by kernel_rfl) ⟨_, rfl, .inl ⟨_, rfl, h1⟩⟩ rfl (rdk_take 9 rfl (by kernel_rfl) trivial (q_pick_f rfl h1 rfl) rfl (rdk_take 10 rfl (by kernel_rfl) trivial (q_move rfl) rfl (rdk_skip 11 rfl (by kernel_rfl) ⟨_, rfl, .inl ⟨_, rfl, rfl⟩⟩ rfl (rdk_skip 12 rfl (by kernel_rfl) ⟨_, rfl, .inl ⟨_, rfl, rfl⟩⟩ rfl (rdk_skip 13 rfl (by kernel_rfl) ⟨_, rfl, .inl ⟨_, rfl, rfl⟩⟩ rfl (rdk_take 14 rfl (by kernel_rfl) trivial (q_pick_f rfl rfl rfl) rfl (rdk_take 15 rfl (by kernel_rfl) trivial (q_move rfl) rfl (rdk_skip 16 rfl (by kernel_rfl) ⟨_, rfl, .inl ⟨_, rfl, rfl⟩⟩ rfl (rdk_skip 17 rfl (by kernel_rfl) ⟨_, rfl, .inl ⟨_, rfl, rfl⟩⟩ rfl (rdk_skip 18 rfl (by kernel_rfl) ⟨_, rfl, .inl ⟨_, rfl, rfl⟩⟩ rfl (rdk_skip 19 rfl (by kernel_rfl) ⟨_, rfl, .inl ⟨_, rfl, rfl⟩⟩ rfl (rdk_skip 20 rfl (by kernel_rfl) ⟨_, rfl, .inr rfl⟩ rfl (rdk_skip 21 rfl (by kernel_rfl) ⟨_, rfl, .inr rfl⟩ rfl (rdk_skip 22 rfl (by kernel_rfl) ⟨_, rfl, .inr rfl⟩ rfl (rdk_skip 23 rfl (by kernel_rfl) ⟨_, rfl, .inl ⟨_, rfl, rfl⟩⟩ rfl (rdk_take 24 rfl (by kernel_rfl) trivial (q_pick_f rfl rfl rfl) rfl (rdk_take 25 rfl (by kernel_rfl) trivial (q_move rfl) rfl (rdk_skip 26 rfl (by kernel_rfl) ⟨_, rfl, .inl ⟨_, rfl, rfl⟩⟩ rfl (rdk_skip 27 rfl (by kernel_rfl) ⟨_, rfl, .inl ⟨_, rfl, rfl⟩⟩ rfl (rdk_skip 28 rfl (by kernel_rfl) ⟨_, rfl, .inl ⟨_, rfl, rfl⟩⟩ rfl (rdk_take 29 rfl (by kernel_rfl) trivial (q_pick_f rfl rfl rfl) rfl (rdk_take 30 rfl (by kernel_rfl) trivial (q_move rfl) rfl (rdk_skip 31 rfl (by kernel_rfl) ⟨_, rfl, .inl ⟨_, rfl, rfl⟩⟩ rfl (rdk_skip 32 rfl (by kernel_rfl) ⟨_, rfl, .inl ⟨_, rfl, rfl⟩⟩ rfl (rdk_skip 33 rfl (by kernel_rfl) ⟨_, rfl, .inl ⟨_, rfl, rfl⟩⟩ rfl (rdk_skip 34 rfl (by kernel_rfl) ⟨_, rfl, .inl ⟨_, rfl, rfl⟩⟩ rfl (rdk_skip 35 rfl (by kernel_rfl) ⟨_, rfl, .inl ⟨_, rfl, rfl⟩⟩ rfl (rdk_skip 36 rfl (by kernel_rfl) ⟨_, rfl, .inl ⟨_, rfl, rfl⟩⟩ rfl (rdk_take 37 rfl (by kernel_rfl) trivial (q_pick_f rfl rfl rfl) rfl (rdk_take 38 rfl (by kernel_rfl) trivial (q_assign rfl) rfl (rdk_endq (by kernel_rfl) (et (ev_ret (ret_pure' ttOk rfl rfl (congrArg bR (?_ : _ = _))))))))))))))))))))))))))))))))))))))))
   simp_all [headOk] <;> (intros; omega)
theorem c_HeadOk' (h : Head) : Pure Tryz.prog 77 [many (headC h)] (bR (headOk h)) := by
 refine pure_intro (N := 41) Tryz.func77 rfl rfl rfl rfl (fun H w => ?_)
 refine sq (rg (evl_e (e_box rfl rfl rfl rfl) (xs rfl rfl (nl (et (sq (ev_drawq [] mo (rdk_take 0 rfl (by kernel_rfl) trivial (q_fieldAddr ttOk rfl) rfl (rdk_take 1 rfl (by kernel_rfl) trivial (q_load ttOk rfl) rfl (rdk_one 2 (by kernel_rfl) (rdo_call (nm := 5) rfl trivial (cf rfl) (c_between _ _ _) (rs_of rfl) rfl rfl rfl (rdk_take 3 rfl (by kernel_rfl) trivial (q_move rfl) rfl (rdk_part (t := 6) rfl (fun h1 => ?_) (fun h1 => ?_))))))))))))))
 · refine rdk_take 4 rfl (by kernel_rfl) ⟨_, _, rfl, rfl, h1⟩ (q_fieldAddr ttOk rfl) rfl (rdk_take 5 rfl (by kernel_rfl) ⟨_, _, rfl, rfl, h1⟩ (q_load ttOk rfl) rfl (rdk_take 6 rfl (by kernel_rfl) ⟨_, _, rfl, rfl, h1⟩ (q_fieldAddr ttOk rfl) rfl (rdk_take 7 rfl (by kernel_rfl) ⟨_, _, rfl, rfl, h1⟩ (q_load ttOk rfl) rfl (rdk_one 8 (by kernel_rfl) (rdo_call (nm := 11) rfl ⟨_, _, rfl, rfl, h1⟩ (cf rfl) (c_between _ _ _) (rs_of rfl) rfl rfl rfl (rdk_take 9 rfl (by kernel_rfl) trivial (q_pick_t rfl h1 rfl) rfl (rdk_take 10 rfl (by kernel_rfl) trivial (q_move rfl) rfl (rdk_part (t := 13) rfl (fun h2 => ?_) (fun h2 => ?_)))))))))
   · refine rdk_take 11 rfl (by kernel_rfl) ⟨_, _, rfl, rfl, h2⟩ (q_fieldAddr ttOk rfl) rfl (rdk_take 12 rfl (by kernel_rfl) ⟨_, _, rfl, rfl, h2⟩ (q_load ttOk rfl) rfl (rdk_one 13 (by kernel_rfl) (rdo_call (nm := 16) rfl ⟨_, _, rfl, rfl, h2⟩ (cf rfl) (c_TimeOk' _) (rs_of rfl) rfl rfl rfl (rdk_take 14 rfl (by kernel_rfl) trivial (q_pick_t rfl h2 rfl) rfl (rdk_take 15 rfl (by kernel_rfl) trivial (q_move rfl) rfl (rdk_part (t := 18) rfl (fun h3 => ?_) (fun h3 => ?_)))))))
     · refine rdk_take 16 rfl (by kernel_rfl) ⟨_, _, rfl, rfl, h3⟩ (q_fieldAddr ttOk rfl) rfl (rdk_take 17 rfl (by kernel_rfl) ⟨_, _, rfl, rfl, h3⟩ (q_load ttOk rfl) rfl (rdk_take 18 rfl (by kernel_rfl) ⟨_, _, rfl, rfl, h3⟩ (q_bin ttOk rfl) rfl (rdk_take 19 rfl (by kernel_rfl) ⟨_, _, rfl, rfl, h3⟩ (q_move rfl) rfl (rdk_part (t := 22) rfl (fun h4 => ?_) (fun h4 => ?_)))))
       · refine rdk_skip 20 rfl (by kernel_rfl) ⟨_, rfl, .inl ⟨_, rfl, h4⟩⟩ rfl (rdk_skip 21 rfl (by kernel_rfl) ⟨_, rfl, .inl ⟨_, rfl, h4⟩⟩ rfl (rdk_skip 22 rfl (by kernel_rfl) ⟨_, rfl, .inl ⟨_, rfl, h4⟩⟩ rfl (rdk_take 23 rfl (by kernel_rfl) ⟨_, _, rfl, rfl, h3⟩ (q_pick_t rfl h4 rfl) rfl (rdk_take 24 rfl (by kernel_rfl) trivial (q_pick_t rfl h3 rfl) rfl (rdk_take 25 rfl (by kernel_rfl) trivial (q_move rfl) rfl (rdk_take 26 rfl (by kernel_rfl) ⟨_, _, rfl, rfl, rfl⟩ (q_fieldAddr ttOk rfl) rfl (rdk_take 27 rfl (by kernel_rfl) ⟨_, _, rfl, rfl, rfl⟩ (q_load ttOk rfl) rfl (rdk_one 28 (by kernel_rfl) (rdo_call (nm := 31) rfl ⟨_, _, rfl, rfl, rfl⟩ (cf rfl) (c_SeenOk' _) (rs_of rfl) rfl rfl rfl (rdk_take 29 rfl (by kernel_rfl) trivial (q_pick_t rfl rfl rfl) rfl (rdk_take 30 rfl (by kernel_rfl) trivial (q_move rfl) rfl (rdk_part (t := 33) rfl (fun h5 => ?_) (fun h5 => ?_)))))))))))))
         · refine rdk_take 31 rfl (by kernel_rfl) ⟨_, _, rfl, rfl, h5⟩ (q_fieldAddr ttOk rfl) rfl (rdk_take 32 rfl (by kernel_rfl) ⟨_, _, rfl, rfl, h5⟩ (q_load ttOk rfl) rfl (rdk_take 34 rfl (by kernel_rfl) ⟨_, _, rfl, rfl, h5⟩ (q_fieldAddr ttOk rfl) rfl (rdk_take 35 rfl (by kernel_rfl) ⟨_, _, rfl, rfl, h5⟩ (q_load ttOk rfl) rfl (rdk_one 33 (by kernel_rfl) (rdo_call (nm := 36) rfl ⟨_, _, rfl, rfl, h5⟩ (cf rfl) (c_lastSeen _) (rs_of rfl) rfl rfl rfl (rdk_take 36 rfl (by kernel_rfl) ⟨_, _, rfl, rfl, h5⟩ (q_bin ttOk rfl) rfl (rdk_take 37 rfl (by kernel_rfl) trivial (q_pick_t rfl h5 rfl) rfl (rdk_take 38 rfl (by kernel_rfl) trivial (q_assign rfl) rfl (rdk_endq (by kernel_rfl) (et (ev_ret (ret_pure' ttOk rfl rfl (congrArg bR (?_ : _ = _))))))))))))))
           simp_all [headOk] <;> (intros; omega)
         · refine rdk_skip 31 rfl (by kernel_rfl) ⟨_, rfl, .inl ⟨_, rfl, h5⟩⟩ rfl (rdk_skip 32 rfl (by kernel_rfl) ⟨_, rfl, .inl ⟨_, rfl, h5⟩⟩ rfl (rdk_skip 33 rfl (by kernel_rfl) ⟨_, rfl, .inl ⟨_, rfl, h5⟩⟩ rfl (rdk_skip 34 rfl (by kernel_rfl) ⟨_, rfl, .inl ⟨_, rfl, h5⟩⟩ rfl (rdk_skip 35 rfl (by kernel_rfl) ⟨_, rfl, .inl ⟨_, rfl, h5⟩⟩ rfl (rdk_skip 36 rfl (by kernel_rfl) ⟨_, rfl, .inl ⟨_, rfl, h5⟩⟩ rfl (rdk_take 37 rfl (by kernel_rfl) trivial (q_pick_f rfl h5 rfl) rfl (rdk_take 38 rfl (by kernel_rfl) trivial (q_assign rfl) rfl (rdk_endq (by kernel_rfl) (et (ev_ret (ret_pure' ttOk rfl rfl (congrArg bR (?_ : _ = _)))))))))))))
           simp_all [headOk] <;> (intros; omega)
       · refine rdk_take 20 rfl (by kernel_rfl) ⟨_, _, rfl, rfl, h4⟩ (q_fieldAddr ttOk rfl) rfl (rdk_take 21 rfl (by kernel_rfl) ⟨_, _, rfl, rfl, h4⟩ (q_load ttOk rfl) rfl (rdk_take 22 rfl (by kernel_rfl) ⟨_, _, rfl, rfl, h4⟩ (q_bin ttOk rfl) rfl (rdk_take 23 rfl (by kernel_rfl) ⟨_, _, rfl, rfl, h3⟩ (q_pick_f rfl h4 rfl) rfl (rdk_take 24 rfl (by kernel_rfl) trivial (q_pick_t rfl h3 rfl) rfl (rdk_take 25 rfl (by kernel_rfl) trivial (q_move rfl) rfl (rdk_part (t := 28) rfl (fun h6 => ?_) (fun h6 => ?_)))))))
         · refine rdk_take 26 rfl (by kernel_rfl) ⟨_, _, rfl, rfl, h6⟩ (q_fieldAddr ttOk rfl) rfl (rdk_take 27 rfl (by kernel_rfl) ⟨_, _, rfl, rfl, h6⟩ (q_load ttOk rfl) rfl (rdk_one 28 (by kernel_rfl) (rdo_call (nm := 31) rfl ⟨_, _, rfl, rfl, h6⟩ (cf rfl) (c_SeenOk' _) (rs_of rfl) rfl rfl rfl (rdk_take 29 rfl (by kernel_rfl) trivial (q_pick_t rfl h6 rfl) rfl (rdk_take 30 rfl (by kernel_rfl) trivial (q_move rfl) rfl (rdk_part (t := 33) rfl (fun h7 => ?_) (fun h7 => ?_)))))))
           · refine rdk_take 31 rfl (by kernel_rfl) ⟨_, _, rfl, rfl, h7⟩ (q_fieldAddr ttOk rfl) rfl (rdk_take 32 rfl (by kernel_rfl) ⟨_, _, rfl, rfl, h7⟩ (q_load ttOk rfl) rfl (rdk_take 34 rfl (by kernel_rfl) ⟨_, _, rfl, rfl, h7⟩ (q_fieldAddr ttOk rfl) rfl (rdk_take 35 rfl (by kernel_rfl) ⟨_, _, rfl, rfl, h7⟩ (q_load ttOk rfl) rfl (rdk_one 33 (by kernel_rfl) (rdo_call (nm := 36) rfl ⟨_, _, rfl, rfl, h7⟩ (cf rfl) (c_lastSeen _) (rs_of rfl) rfl rfl rfl (rdk_take 36 rfl (by kernel_rfl) ⟨_, _, rfl, rfl, h7⟩ (q_bin ttOk rfl) rfl (rdk_take 37 rfl (by kernel_rfl) trivial (q_pick_t rfl h7 rfl) rfl (rdk_take 38 rfl (by kernel_rfl) trivial (q_assign rfl) rfl (rdk_endq (by kernel_rfl) (et (ev_ret (ret_pure' ttOk rfl rfl (congrArg bR (?_ : _ = _))))))))))))))
             simp_all [headOk] <;> (intros; omega)
           · refine rdk_skip 31 rfl (by kernel_rfl) ⟨_, rfl, .inl ⟨_, rfl, h7⟩⟩ rfl (rdk_skip 32 rfl (by kernel_rfl) ⟨_, rfl, .inl ⟨_, rfl, h7⟩⟩ rfl (rdk_skip 33 rfl (by kernel_rfl) ⟨_, rfl, .inl ⟨_, rfl, h7⟩⟩ rfl (rdk_skip 34 rfl (by kernel_rfl) ⟨_, rfl, .inl ⟨_, rfl, h7⟩⟩ rfl (rdk_skip 35 rfl (by kernel_rfl) ⟨_, rfl, .inl ⟨_, rfl, h7⟩⟩ rfl (rdk_skip 36 rfl (by kernel_rfl) ⟨_, rfl, .inl ⟨_, rfl, h7⟩⟩ rfl (rdk_take 37 rfl (by kernel_rfl) trivial (q_pick_f rfl h7 rfl) rfl (rdk_take 38 rfl (by kernel_rfl) trivial (q_assign rfl) rfl (rdk_endq (by kernel_rfl) (et (ev_ret (ret_pure' ttOk rfl rfl (congrArg bR (?_ : _ = _)))))))))))))
             simp_all [headOk] <;> (intros; omega)
         · refine rdk_skip 26 rfl (by kernel_rfl) ⟨_, rfl, .inl ⟨_, rfl, h6⟩⟩ rfl (rdk_skip 27 rfl (by kernel_rfl) ⟨_, rfl, .inl ⟨_, rfl, h6⟩⟩ rfl (rdk_skip 28 rfl (by kernel_rfl) ⟨_, rfl, .inl ⟨_, rfl, h6⟩⟩ rfl (rdk_take 29 rfl (by kernel_rfl) trivial (q_pick_f rfl h6 rfl) rfl (rdk_take 30 rfl (by kernel_rfl) trivial (q_move rfl) rfl (rdk_skip 31 rfl (by kernel_rfl) ⟨_, rfl, .inl ⟨_, rfl, rfl⟩⟩ rfl (rdk_skip 32 rfl (by kernel_rfl) ⟨_, rfl, .inl ⟨_, rfl, rfl⟩⟩ rfl (rdk_skip 33 rfl (by kernel_rfl) ⟨_, rfl, .inl ⟨_, rfl, rfl⟩⟩ rfl (rdk_skip 34 rfl (by kernel_rfl) ⟨_, rfl, .inl ⟨_, rfl, rfl⟩⟩ rfl (rdk_skip 35 rfl (by kernel_rfl) ⟨_, rfl, .inl ⟨_, rfl, rfl⟩⟩ rfl (rdk_skip 36 rfl (by kernel_rfl) ⟨_, rfl, .inl ⟨_, rfl, rfl⟩⟩ rfl (rdk_take 37 rfl (by kernel_rfl) trivial (q_pick_f rfl rfl rfl) rfl (rdk_take 38 rfl (by kernel_rfl) trivial (q_assign rfl) rfl (rdk_endq (by kernel_rfl) (et (ev_ret (ret_pure' ttOk rfl rfl (congrArg bR (?_ : _ = _))))))))))))))))))
           simp_all [headOk] <;> (intros; omega)
     · refine rdk_skip 16 rfl (by kernel_rfl) ⟨_, rfl, .inl ⟨_, rfl, h3⟩⟩ rfl (rdk_skip 17 rfl (by kernel_rfl) ⟨_, rfl, .inl ⟨_, rfl, h3⟩⟩ rfl (rdk_skip 18 rfl (by kernel_rfl) ⟨_, rfl, .inl ⟨_, rfl, h3⟩⟩ rfl (rdk_skip 19 rfl (by kernel_rfl) ⟨_, rfl, .inl ⟨_, rfl, h3⟩⟩ rfl (rdk_skip 20 rfl (by kernel_rfl) ⟨_, rfl, .inr rfl⟩ rfl (rdk_skip 21 rfl (by kernel_rfl) ⟨_, rfl, .inr rfl⟩ rfl (rdk_skip 22 rfl (by kernel_rfl) ⟨_, rfl, .inr rfl⟩ rfl (rdk_skip 23 rfl (by kernel_rfl) ⟨_, rfl, .inl ⟨_, rfl, h3⟩⟩ rfl (rdk_take 24 rfl (by kernel_rfl) trivial (q_pick_f rfl h3 rfl) rfl (rdk_take 25 rfl (by kernel_rfl) trivial (q_move rfl) rfl (rdk_skip 26 rfl (by kernel_rfl) ⟨_, rfl, .inl ⟨_, rfl, rfl⟩⟩ rfl (rdk_skip 27 rfl (by kernel_rfl) ⟨_, rfl, .inl ⟨_, rfl, rfl⟩⟩ rfl (rdk_skip 28 rfl (by kernel_rfl) ⟨_, rfl, .inl ⟨_, rfl, rfl⟩⟩ rfl (rdk_take 29 rfl (by kernel_rfl) trivial (q_pick_f rfl rfl rfl) rfl (rdk_take 30 rfl (by kernel_rfl) trivial (q_move rfl) rfl (rdk_skip 31 rfl (by kernel_rfl) ⟨_, rfl, .inl ⟨_, rfl, rfl⟩⟩ rfl (rdk_skip 32 rfl (by kernel_rfl) ⟨_, rfl, .inl ⟨_, rfl, rfl⟩⟩ rfl (rdk_skip 33 rfl (by kernel_rfl) ⟨_, rfl, .inl ⟨_, rfl, rfl⟩⟩ rfl (rdk_skip 34 rfl (by kernel_rfl) ⟨_, rfl, .inl ⟨_, rfl, rfl⟩⟩ rfl (rdk_skip 35 rfl (by kernel_rfl) ⟨_, rfl, .inl ⟨_, rfl, rfl⟩⟩ rfl (rdk_skip 36 rfl (by kernel_rfl) ⟨_, rfl, .inl ⟨_, rfl, rfl⟩⟩ rfl (rdk_take 37 rfl (by kernel_rfl) trivial (q_pick_f rfl rfl rfl) rfl (rdk_take 38 rfl (by kernel_rfl) trivial (q_assign rfl) rfl (rdk_endq (by kernel_rfl) (et (ev_ret (ret_pure' ttOk rfl rfl (congrArg bR (?_ : _ = _))))))))))))))))))))))))))))
       simp_all [headOk] <;> (intros; omega)
   · refine rdk_skip 11 rfl (by kernel_rfl) ⟨_, rfl, .inl ⟨_, rfl, h2⟩⟩ rfl (rdk_skip 12 rfl (by kernel_rfl) ⟨_, rfl, .inl ⟨_, rfl, h2⟩⟩ rfl (rdk_skip 13 rfl (by kernel_rfl) ⟨_, rfl, .inl ⟨_, rfl, h2⟩⟩ rfl (rdk_take 14 rfl (by kernel_rfl) trivial (q_pick_f rfl h2 rfl) rfl (rdk_take 15 rfl (by kernel_rfl) trivial (q_move rfl) rfl (rdk_skip 16 rfl (by kernel_rfl) ⟨_, rfl, .inl ⟨_, rfl, rfl⟩⟩ rfl (rdk_skip 17 rfl (by kernel_rfl) ⟨_, rfl, .inl ⟨_, rfl, rfl⟩⟩ rfl (rdk_skip 18 rfl (by kernel_rfl) ⟨_, rfl, .inl ⟨_, rfl, rfl⟩⟩ rfl (rdk_skip 19 rfl (by kernel_rfl) ⟨_, rfl, .inl ⟨_, rfl, rfl⟩⟩ rfl (rdk_skip 20 rfl (by kernel_rfl) ⟨_, rfl, .inr rfl⟩ rfl (rdk_skip 21 rfl (by kernel_rfl) ⟨_, rfl, .inr rfl⟩ rfl (rdk_skip 22 rfl (by kernel_rfl) ⟨_, rfl, .inr rfl⟩ rfl (rdk_skip 23 rfl (by kernel_rfl) ⟨_, rfl, .inl ⟨_, rfl, rfl⟩⟩ rfl (rdk_take 24 rfl (by kernel_rfl) trivial (q_pick_f rfl rfl rfl) rfl (rdk_take 25 rfl (by kernel_rfl) trivial (q_move rfl) rfl (rdk_skip 26 rfl (by kernel_rfl) ⟨_, rfl, .inl ⟨_, rfl, rfl⟩⟩ rfl (rdk_skip 27 rfl (by kernel_rfl) ⟨_, rfl, .inl ⟨_, rfl, rfl⟩⟩ rfl (rdk_skip 28 rfl (by kernel_rfl) ⟨_, rfl, .inl ⟨_, rfl, rfl⟩⟩ rfl (rdk_take 29 rfl (by kernel_rfl) trivial (q_pick_f rfl rfl rfl) rfl (rdk_take 30 rfl (by kernel_rfl) trivial (q_move rfl) rfl (rdk_skip 31 rfl (by kernel_rfl) ⟨_, rfl, .inl ⟨_, rfl, rfl⟩⟩ rfl (rdk_skip 32 rfl (by kernel_rfl) ⟨_, rfl, .inl ⟨_, rfl, rfl⟩⟩ rfl (rdk_skip 33 rfl (by kernel_rfl) ⟨_, rfl, .inl ⟨_, rfl, rfl⟩⟩ rfl (rdk_skip 34 rfl (by kernel_rfl) ⟨_, rfl, .inl ⟨_, rfl, rfl⟩⟩ rfl (rdk_skip 35 rfl (by kernel_rfl) ⟨_, rfl, .inl ⟨_, rfl, rfl⟩⟩ rfl (rdk_skip 36 rfl (by kernel_rfl) ⟨_, rfl, .inl ⟨_, rfl, rfl⟩⟩ rfl (rdk_take 37 rfl (by kernel_rfl) trivial (q_pick_f rfl rfl rfl) rfl (rdk_take 38 rfl (by kernel_rfl) trivial (q_assign rfl) rfl (rdk_endq (by kernel_rfl) (et (ev_ret (ret_pure' ttOk rfl rfl (congrArg bR (?_ : _ = _)))))))))))))))))))))))))))))))))
     simp_all [headOk] <;> (intros; omega)
 · refine rdk_skip 4 rfl (by kernel_rfl) ⟨_, rfl, .inl ⟨_, rfl, h1⟩⟩ rfl (rdk_skip 5 rfl (by kernel_rfl) ⟨_, rfl, .inl ⟨_, rfl, h1⟩⟩ rfl (rdk_skip 6 rfl (by kernel_rfl) ⟨_, rfl, .inl ⟨_, rfl, h1⟩⟩ rfl (rdk_skip 7 rfl (by kernel_rfl) ⟨_, rfl, .inl ⟨_, rfl, h1⟩⟩ rfl (rdk_skip 8 rfl (by kernel_rfl) ⟨_, rfl, .inl ⟨_, rfl, h1⟩⟩ rfl (rdk_take 9 rfl (by kernel_rfl) trivial (q_pick_f rfl h1 rfl) rfl (rdk_take 10 rfl (by kernel_rfl) trivial (q_move rfl) rfl (rdk_skip 11 rfl (by kernel_rfl) ⟨_, rfl, .inl ⟨_, rfl, rfl⟩⟩ rfl (rdk_skip 12 rfl (by kernel_rfl) ⟨_, rfl, .inl ⟨_, rfl, rfl⟩⟩ rfl (rdk_skip 13 rfl (by kernel_rfl) ⟨_, rfl, .inl ⟨_, rfl, rfl⟩⟩ rfl (rdk_take 14 rfl (by kernel_rfl) trivial (q_pick_f rfl rfl rfl) rfl (rdk_take 15 rfl (by kernel_rfl) trivial (q_move rfl) rfl (rdk_skip 16 rfl (by kernel_rfl) ⟨_, rfl, .inl ⟨_, rfl, rfl⟩⟩ rfl (rdk_skip 17 rfl (by kernel_rfl) ⟨_, rfl, .inl ⟨_, rfl, rfl⟩⟩ rfl (rdk_skip 18 rfl (by kernel_rfl) ⟨_, rfl, .inl ⟨_, rfl, rfl⟩⟩ rfl (rdk_skip 19 rfl (by kernel_rfl) ⟨_, rfl, .inl ⟨_, rfl, rfl⟩⟩ rfl (rdk_skip 20 rfl (by kernel_rfl) ⟨_, rfl, .inr rfl⟩ rfl (rdk_skip 21 rfl (by kernel_rfl) ⟨_, rfl, .inr rfl⟩ rfl (rdk_skip 22 rfl (by kernel_rfl) ⟨_, rfl, .inr rfl⟩ rfl (rdk_skip 23 rfl (by kernel_rfl) ⟨_, rfl, .inl ⟨_, rfl, rfl⟩⟩ rfl (rdk_take 24 rfl (by kernel_rfl) trivial (q_pick_f rfl rfl rfl) rfl (rdk_take 25 rfl (by kernel_rfl) trivial (q_move rfl) rfl (rdk_skip 26 rfl (by kernel_rfl) ⟨_, rfl, .inl ⟨_, rfl, rfl⟩⟩ rfl (rdk_skip 27 rfl (by kernel_rfl) ⟨_, rfl, .inl ⟨_, rfl, rfl⟩⟩ rfl (rdk_skip 28 rfl (by kernel_rfl) ⟨_, rfl, .inl ⟨_, rfl, rfl⟩⟩ rfl (rdk_take 29 rfl (by kernel_rfl) trivial (q_pick_f rfl rfl rfl) rfl (rdk_take 30 rfl (by kernel_rfl) trivial (q_move rfl) rfl (rdk_skip 31 rfl (by kernel_rfl) ⟨_, rfl, .inl ⟨_, rfl, rfl⟩⟩ rfl (rdk_skip 32 rfl (by kernel_rfl) ⟨_, rfl, .inl ⟨_, rfl, rfl⟩⟩ rfl (rdk_skip 33 rfl (by kernel_rfl) ⟨_, rfl, .inl ⟨_, rfl, rfl⟩⟩ rfl (rdk_skip 34 rfl (by kernel_rfl) ⟨_, rfl, .inl ⟨_, rfl, rfl⟩⟩ rfl (rdk_skip 35 rfl (by kernel_rfl) ⟨_, rfl, .inl ⟨_, rfl, rfl⟩⟩ rfl (rdk_skip 36 rfl (by kernel_rfl) ⟨_, rfl, .inl ⟨_, rfl, rfl⟩⟩ rfl (rdk_take 37 rfl (by kernel_rfl) trivial (q_pick_f rfl rfl rfl) rfl (rdk_take 38 rfl (by kernel_rfl) trivial (q_assign rfl) rfl (rdk_endq (by kernel_rfl) (et (ev_ret (ret_pure' ttOk rfl rfl (congrArg bR (?_ : _ = _))))))))))))))))))))))))))))))))))))))))
   simp_all [headOk] <;> (intros; omega)
theorem getD_at {l : List Int} {k : Nat} (hk : k < l.length) : l.getD k 0 = l[k] := by simp [hk]
end Go.Proofs.YtphaggopgdbojaaGreat
namespace Go.Proofs.YtphaggopgdbojaaGreat
open Go.ChangeShapes Go.WideShapes Go.ChangeAt Go.RowKit
set_option linter.unusedVariables false
set_option linter.unusedSimpArgs false
set_option maxHeartbeats 1000000
set_option maxRecDepth 100000
attribute [local irreducible] EvL Ev EvE Quiet Eff Pure RDk RDb RDo
theorem rs_sub {S : St} {x : Operand} {r n k j ty : Nat} {l : List (List C)} {cs : List C} {y : C} (hx : opv S.T x = some (.p false [.sub r n k j])) (hr : lk S.R r = some (ty, n, l)) (hk : l[k]? = some cs) (hj : cs[j]? = some y) : RsA S [x] [(false, [y])] := ⟨⟨_, hx, ⟨ty, l, cs, hr, hk, hj⟩, trivial⟩, trivial⟩
theorem get_map {α β : Type} {f : α → β} {L : List α} {k : Nat} (hk : k < L.length) : (L.map f)[k]? = some (f L[k]) := by rw [List.getElem?_map, List.getElem?_eq_getElem hk]; rfl
theorem rightF_len (t : Two) (x : Int) : (rightF t x).length ≤ 2 := by
  unfold rightF rightOf
  split
  · cases uns (readF t.a x) <;> cases uns (readF t.b x) <;> simp
    split <;> simp
  · simp
end Go.Proofs.YtphaggopgdbojaaGreat
namespace Go.Proofs.YtphaggopgdbojaaGreat
open Go.ChangeShapes Go.WideShapes Go.ChangeAt Go.RowKit
set_option linter.unusedVariables false
set_option linter.unusedSimpArgs false
set_option maxHeartbeats 1000000
set_option maxRecDepth 100000
attribute [local irreducible] EvL Ev EvE Quiet Eff Pure RDk RDb RDo
theorem e_ints (l : List Int) : Pure Tryz.prog 34 [one (ints l), one (ints l)] (bR true) := by
 refine pure_intro (N := 26) Tryz.func34 rfl rfl rfl rfl (fun H w => ?_)
 refine ev_lenm (t := 0) rfl (fun hL => ?_)
 refine ev_lenm (t := 1) rfl (fun hM => ?_)
 refine sq (rg (xs rfl rfl (nl (et (sq (sq (rg (xm rfl rfl (xo (q_len_map ttOk rfl rfl) rfl (xm rfl rfl (xo (q_len_map ttOk rfl rfl) rfl (xb ttOk rfl rfl (nl (et (ev_cond rfl (fun h1 => ?_) (fun h1 => ?_))))))))))))))))
 · try have d1 := of_decide_eq_true h1
   refine sq (rg (xs rfl rfl (nl (et (ev_ret (evr_then (ret_pure' ttOk rfl rfl (congrArg bR (?_ : _ = _)))))))))
   first | rfl | (exfalso; simp_all; done) | (exfalso; omega)
 · try have d1 := of_decide_eq_false h1
   refine ev_skip (et (sq (sq (rg (xs rfl rfl (nl (et (ev_blk (ev_loop (fun k : Nat => (⟨[(5, iV k), (0, cV (ints l)), (1, cV (ints l))], [], [], []⟩ : St)) (fun k => k ≤ l.length) (fun k => l.length - k) 0 [] (by simp) ⟨by (repeat first | exact trivial | refine ⟨rfl, ?_⟩), by (repeat first | exact trivial | refine ⟨rfl, ?_⟩), by (repeat first | exact trivial | refine ⟨⟨_, rfl, rfl⟩, ?_⟩), by (repeat first | exact trivial | refine ⟨⟨_, rfl, rfl⟩, ?_⟩), rfl⟩ ?_)))))))))
   intro k hp
   have p0 := hp
   show Ev _ _ _ _ (⟨[(5, iV k), (0, cV (ints l)), (1, cV (ints l))], [], [], []⟩ : St)
   refine sq (sq (rg (xm rfl rfl (xm rfl rfl (xo (q_len_map ttOk rfl rfl) rfl (xb ttOk rfl rfl (nl (et (ev_cond rfl (fun h2 => ?_) (fun h2 => ?_))))))))))
   · try have d2 := of_decide_eq_true h2
     refine ev_skip (et (sq (ev_blk (sq (ev_drawq [] mo (rdk_take 0 rfl (by kernel_rfl) trivial (q_move rfl) rfl (rdk_take 1 rfl (by kernel_rfl) trivial (q_move rfl) rfl (rdk_take 2 rfl (by kernel_rfl) trivial (q_ix_map ttOk rfl rfl rfl rfl (by omega)) rfl (rdk_take 3 rfl (by kernel_rfl) trivial (q_load ttOk rfl) rfl (rdk_take 4 rfl (by kernel_rfl) trivial (q_move rfl) rfl (rdk_take 5 rfl (by kernel_rfl) trivial (q_move rfl) rfl (rdk_take 6 rfl (by kernel_rfl) trivial (q_ix_map ttOk rfl rfl rfl rfl (by omega)) rfl (rdk_take 7 rfl (by kernel_rfl) trivial (q_load ttOk rfl) rfl (rdk_take 8 rfl (by kernel_rfl) trivial (q_bin ttOk rfl) rfl (rdk_endq (by kernel_rfl) (et (ev_cond rfl (fun h3 => ?_) (fun h3 => ?_))))))))))))))))))
     · try have d3 := of_decide_eq_true h3
       refine sq (rg (xs rfl rfl (nl (et (ev_ret (evr_blk (evr_then (evr_then (evr_blk (evr_then (ret_pure' ttOk rfl rfl (congrArg bR (?_ : _ = _)))))))))))))
       first | rfl | (exfalso; simp_all; done) | (exfalso; omega)
     · try have d3 := of_decide_eq_false h3
       refine ev_skip (eb (et (rg (xm rfl rfl (xa rfl rfl rfl (by omega) rfl (xs rfl rfl (nl (eve_round (k + 1) [] ?hp ⟨by (repeat first | exact trivial | refine ⟨rfl, ?_⟩), by (repeat first | exact trivial | refine ⟨rfl, ?_⟩), by (repeat first | exact trivial | refine ⟨⟨_, rfl, rfl⟩, ?_⟩), by (repeat first | exact trivial | refine ⟨⟨_, rfl, rfl⟩, ?_⟩), rfl⟩))))))))
       case hp => exact ⟨by omega, by omega⟩
   · try have d2 := of_decide_eq_false h2
     refine ev_exit (evx_then (evx_then (evx_hit (et (sq (rg (xs rfl rfl (nl (et (ev_ret (ret_pure' ttOk rfl rfl (congrArg bR (?_ : _ = _)))))))))))))
     first | rfl | (exfalso; simp_all; done) | (exfalso; omega)
theorem e_rows (l : List (List Int)) : Pure Tryz.prog 154 [one (rows l), one (rows l)] (bR true) := by
 refine pure_intro (N := 27) Tryz.func154 rfl rfl rfl rfl (fun H w => ?_)
 refine ev_lenm (t := 0) rfl (fun hL => ?_)
 refine ev_lenm (t := 1) rfl (fun hM => ?_)
 refine sq (rg (xs rfl rfl (nl (et (sq (sq (rg (xm rfl rfl (xo (q_len_map ttOk rfl rfl) rfl (xm rfl rfl (xo (q_len_map ttOk rfl rfl) rfl (xb ttOk rfl rfl (nl (et (ev_cond rfl (fun h1 => ?_) (fun h1 => ?_))))))))))))))))
 · try have d1 := of_decide_eq_true h1
   refine sq (rg (xs rfl rfl (nl (et (ev_ret (evr_then (ret_pure' ttOk rfl rfl (congrArg bR (?_ : _ = _)))))))))
   first | rfl | (exfalso; simp_all; done) | (exfalso; omega)
 · try have d1 := of_decide_eq_false h1
   refine ev_skip (et (sq (sq (rg (xs rfl rfl (nl (et (ev_blk (ev_loop (fun k : Nat => (⟨[(5, iV k), (0, cV (rows l)), (1, cV (rows l))], [], [], []⟩ : St)) (fun k => k ≤ l.length) (fun k => l.length - k) 0 [] (by simp) ⟨by (repeat first | exact trivial | refine ⟨rfl, ?_⟩), by (repeat first | exact trivial | refine ⟨rfl, ?_⟩), by (repeat first | exact trivial | refine ⟨⟨_, rfl, rfl⟩, ?_⟩), by (repeat first | exact trivial | refine ⟨⟨_, rfl, rfl⟩, ?_⟩), rfl⟩ ?_)))))))))
   intro k hp
   have p0 := hp
   show Ev _ _ _ _ (⟨[(5, iV k), (0, cV (rows l)), (1, cV (rows l))], [], [], []⟩ : St)
   refine sq (sq (rg (xm rfl rfl (xm rfl rfl (xo (q_len_map ttOk rfl rfl) rfl (xb ttOk rfl rfl (nl (et (ev_cond rfl (fun h2 => ?_) (fun h2 => ?_))))))))))
   · try have d2 := of_decide_eq_true h2
     refine ev_skip (et (sq (ev_blk (sq (ev_drawq [] mo (rdk_take 0 rfl (by kernel_rfl) trivial (q_move rfl) rfl (rdk_take 1 rfl (by kernel_rfl) trivial (q_move rfl) rfl (rdk_take 2 rfl (by kernel_rfl) trivial (q_ix_map ttOk rfl rfl rfl rfl (by omega)) rfl (rdk_take 3 rfl (by kernel_rfl) trivial (q_load ttOk rfl) rfl (rdk_take 4 rfl (by kernel_rfl) trivial (q_move rfl) rfl (rdk_take 5 rfl (by kernel_rfl) trivial (q_move rfl) rfl (rdk_take 6 rfl (by kernel_rfl) trivial (q_ix_map ttOk rfl rfl rfl rfl (by omega)) rfl (rdk_take 7 rfl (by kernel_rfl) trivial (q_load ttOk rfl) rfl (rdk_one 8 (by kernel_rfl) (rdo_call (nm := 25) rfl trivial (cf rfl) (e_ints _) (rs_of rfl) rfl rfl rfl (rdk_take 9 rfl (by kernel_rfl) trivial (q_not rfl) rfl (rdk_endq (by kernel_rfl) (et (ev_cond_n rfl (fun h3 => ?_) (fun h3 => ?_))))))))))))))))))))
     · try have d3 := of_decide_eq_false h3
       refine sq (rg (xs rfl rfl (nl (et (ev_ret (evr_blk (evr_then (evr_then (evr_blk (evr_then (ret_pure' ttOk rfl rfl (congrArg bR (?_ : _ = _)))))))))))))
       first | rfl | (exfalso; simp_all; done) | (exfalso; omega)
     · try have d3 := of_decide_eq_true h3
       refine ev_skip (eb (et (rg (xm rfl rfl (xa rfl rfl rfl (by omega) rfl (xs rfl rfl (nl (eve_round (k + 1) [] ?hp ⟨by (repeat first | exact trivial | refine ⟨rfl, ?_⟩), by (repeat first | exact trivial | refine ⟨rfl, ?_⟩), by (repeat first | exact trivial | refine ⟨⟨_, rfl, rfl⟩, ?_⟩), by (repeat first | exact trivial | refine ⟨⟨_, rfl, rfl⟩, ?_⟩), rfl⟩))))))))
       case hp => exact ⟨by omega, by omega⟩
   · try have d2 := of_decide_eq_false h2
     refine ev_exit (evx_then (evx_then (evx_hit (et (sq (rg (xs rfl rfl (nl (et (ev_ret (ret_pure' ttOk rfl rfl (congrArg bR (?_ : _ = _)))))))))))))
     first | rfl | (exfalso; simp_all; done) | (exfalso; omega)
theorem e_write (x : Int × List Int) : Pure Tryz.prog 212 [many ([iC x.1, ints x.2]), many ([iC x.1, ints x.2])] (bR true) := by
 refine pure_intro (N := 16) Tryz.func212 rfl rfl rfl rfl (fun H w => ?_)
 refine sq (rg (evl_e (e_box rfl rfl rfl rfl) (evl_e (e_box rfl rfl rfl rfl) (xs rfl rfl (nl (et (sq (sq (rg (xf ttOk rfl rfl (xl ttOk rfl rfl (xf ttOk rfl rfl (xl ttOk rfl rfl (xb ttOk rfl rfl (nl (et (ev_cond rfl (fun h1 => ?_) (fun h1 => ?_))))))))))))))))))
 · try have d1 := of_decide_eq_true h1
   refine sq (rg (xs rfl rfl (nl (et (ev_ret (evr_then (ret_pure' ttOk rfl rfl (congrArg bR (?_ : _ = _)))))))))
   first | rfl | (exfalso; simp_all; done) | (exfalso; omega)
 · try have d1 := of_decide_eq_false h1
   refine ev_skip (et (sq (sq (rg (xf ttOk rfl rfl (xl ttOk rfl rfl (xf ttOk rfl rfl (xl ttOk rfl rfl (evl_call (nm := 14) (cf rfl) (e_ints _) (rs_of rfl) rfl rfl rfl (xo (q_not rfl) rfl (nl (et (ev_cond_n rfl (fun h2 => ?_) (fun h2 => ?_))))))))))))))
   · try have d2 := of_decide_eq_false h2
     refine sq (rg (xs rfl rfl (nl (et (ev_ret (evr_then (ret_pure' ttOk rfl rfl (congrArg bR (?_ : _ = _)))))))))
     first | rfl | (exfalso; simp_all; done) | (exfalso; omega)
   · try have d2 := of_decide_eq_true h2
     refine ev_skip (et (sq (rg (xs rfl rfl (nl (et (ev_ret (ret_pure' ttOk rfl rfl (congrArg bR (?_ : _ = _))))))))))
     first | rfl | (exfalso; simp_all; done) | (exfalso; omega)
theorem e_writes (l : List (Int × List Int)) : Pure Tryz.prog 155 [one (writes l), one (writes l)] (bR true) := by
 refine pure_intro (N := 27) Tryz.func155 rfl rfl rfl rfl (fun H w => ?_)
 refine ev_lenm (t := 0) rfl (fun hL => ?_)
 refine ev_lenm (t := 1) rfl (fun hM => ?_)
 refine sq (rg (xs rfl rfl (nl (et (sq (sq (rg (xm rfl rfl (xo (q_len_map ttOk rfl rfl) rfl (xm rfl rfl (xo (q_len_map ttOk rfl rfl) rfl (xb ttOk rfl rfl (nl (et (ev_cond rfl (fun h1 => ?_) (fun h1 => ?_))))))))))))))))
 · try have d1 := of_decide_eq_true h1
   refine sq (rg (xs rfl rfl (nl (et (ev_ret (evr_then (ret_pure' ttOk rfl rfl (congrArg bR (?_ : _ = _)))))))))
   first | rfl | (exfalso; simp_all; done) | (exfalso; omega)
 · try have d1 := of_decide_eq_false h1
   refine ev_skip (et (sq (sq (rg (xs rfl rfl (nl (et (ev_blk (ev_loop (fun k : Nat => (⟨[(5, iV k), (0, cV (writes l)), (1, cV (writes l))], [], [], []⟩ : St)) (fun k => k ≤ l.length) (fun k => l.length - k) 0 [] (by simp) ⟨by (repeat first | exact trivial | refine ⟨rfl, ?_⟩), by (repeat first | exact trivial | refine ⟨rfl, ?_⟩), by (repeat first | exact trivial | refine ⟨⟨_, rfl, rfl⟩, ?_⟩), by (repeat first | exact trivial | refine ⟨⟨_, rfl, rfl⟩, ?_⟩), rfl⟩ ?_)))))))))
   intro k hp
   have p0 := hp
   show Ev _ _ _ _ (⟨[(5, iV k), (0, cV (writes l)), (1, cV (writes l))], [], [], []⟩ : St)
   refine sq (sq (rg (xm rfl rfl (xm rfl rfl (xo (q_len_map ttOk rfl rfl) rfl (xb ttOk rfl rfl (nl (et (ev_cond rfl (fun h2 => ?_) (fun h2 => ?_))))))))))
   · try have d2 := of_decide_eq_true h2
     refine ev_skip (et (sq (ev_blk (sq (ev_drawq [] mo (rdk_take 0 rfl (by kernel_rfl) trivial (q_move rfl) rfl (rdk_take 1 rfl (by kernel_rfl) trivial (q_move rfl) rfl (rdk_take 2 rfl (by kernel_rfl) trivial (q_ix_map ttOk rfl rfl rfl rfl (by omega)) rfl (rdk_take 3 rfl (by kernel_rfl) trivial (q_load ttOk rfl) rfl (rdk_take 4 rfl (by kernel_rfl) trivial (q_move rfl) rfl (rdk_take 5 rfl (by kernel_rfl) trivial (q_move rfl) rfl (rdk_take 6 rfl (by kernel_rfl) trivial (q_ix_map ttOk rfl rfl rfl rfl (by omega)) rfl (rdk_take 7 rfl (by kernel_rfl) trivial (q_load ttOk rfl) rfl (rdk_one 8 (by kernel_rfl) (rdo_call (nm := 25) rfl trivial (cf rfl) (e_write ⟨_, _⟩) (rs_of rfl) rfl rfl rfl (rdk_take 9 rfl (by kernel_rfl) trivial (q_not rfl) rfl (rdk_endq (by kernel_rfl) (et (ev_cond_n rfl (fun h3 => ?_) (fun h3 => ?_))))))))))))))))))))
     · try have d3 := of_decide_eq_false h3
       refine sq (rg (xs rfl rfl (nl (et (ev_ret (evr_blk (evr_then (evr_then (evr_blk (evr_then (ret_pure' ttOk rfl rfl (congrArg bR (?_ : _ = _)))))))))))))
       first | rfl | (exfalso; simp_all; done) | (exfalso; omega)
     · try have d3 := of_decide_eq_true h3
       refine ev_skip (eb (et (rg (xm rfl rfl (xa rfl rfl rfl (by omega) rfl (xs rfl rfl (nl (eve_round (k + 1) [] ?hp ⟨by (repeat first | exact trivial | refine ⟨rfl, ?_⟩), by (repeat first | exact trivial | refine ⟨rfl, ?_⟩), by (repeat first | exact trivial | refine ⟨⟨_, rfl, rfl⟩, ?_⟩), by (repeat first | exact trivial | refine ⟨⟨_, rfl, rfl⟩, ?_⟩), rfl⟩))))))))
       case hp => exact ⟨by omega, by omega⟩
   · try have d2 := of_decide_eq_false h2
     refine ev_exit (evx_then (evx_then (evx_hit (et (sq (rg (xs rfl rfl (nl (et (ev_ret (ret_pure' ttOk rfl rfl (congrArg bR (?_ : _ = _)))))))))))))
     first | rfl | (exfalso; simp_all; done) | (exfalso; omega)
theorem e_disk (d : Disk) : Pure Tryz.prog 85 [many (diskC d), many (diskC d)] (bR true) := by
 refine pure_intro (N := 17) Tryz.func85 rfl rfl rfl rfl (fun H w => ?_)
 refine sq (rg (evl_e (e_box rfl rfl rfl rfl) (evl_e (e_box rfl rfl rfl rfl) (xs rfl rfl (nl (et (sq (sq (rg (xf ttOk rfl rfl (xl ttOk rfl rfl (xf ttOk rfl rfl (xl ttOk rfl rfl (evl_call (nm := 9) (cf rfl) (e_rows _) (rs_of rfl) rfl rfl rfl (xo (q_not rfl) rfl (nl (et (ev_cond_n rfl (fun h1 => ?_) (fun h1 => ?_)))))))))))))))))))
 · try have d1 := of_decide_eq_false h1
   refine sq (rg (xs rfl rfl (nl (et (ev_ret (evr_then (ret_pure' ttOk rfl rfl (congrArg bR (?_ : _ = _)))))))))
   first | rfl | (exfalso; simp_all; done) | (exfalso; omega)
 · try have d1 := of_decide_eq_true h1
   refine ev_skip (et (sq (sq (rg (xf ttOk rfl rfl (xl ttOk rfl rfl (xf ttOk rfl rfl (xl ttOk rfl rfl (evl_call (nm := 15) (cf rfl) (e_writes _) (rs_of rfl) rfl rfl rfl (xo (q_not rfl) rfl (nl (et (ev_cond_n rfl (fun h2 => ?_) (fun h2 => ?_))))))))))))))
   · try have d2 := of_decide_eq_false h2
     refine sq (rg (xs rfl rfl (nl (et (ev_ret (evr_then (ret_pure' ttOk rfl rfl (congrArg bR (?_ : _ = _)))))))))
     first | rfl | (exfalso; simp_all; done) | (exfalso; omega)
   · try have d2 := of_decide_eq_true h2
     refine ev_skip (et (sq (rg (xs rfl rfl (nl (et (ev_ret (ret_pure' ttOk rfl rfl (congrArg bR (?_ : _ = _))))))))))
     first | rfl | (exfalso; simp_all; done) | (exfalso; omega)
theorem e_two (t : Two) : Pure Tryz.prog 25 [many (twoC t), many (twoC t)] (bR true) := by
 refine pure_intro (N := 17) Tryz.func25 rfl rfl rfl rfl (fun H w => ?_)
 refine sq (rg (evl_e (e_box rfl rfl rfl rfl) (evl_e (e_box rfl rfl rfl rfl) (xs rfl rfl (nl (et (sq (sq (rg (xf ttOk rfl rfl (xl ttOk rfl rfl (xf ttOk rfl rfl (xl ttOk rfl rfl (evl_call (nm := 9) (cf rfl) (e_disk ⟨_, _⟩) (rs_of rfl) rfl rfl rfl (xo (q_not rfl) rfl (nl (et (ev_cond_n rfl (fun h1 => ?_) (fun h1 => ?_)))))))))))))))))))
 · try have d1 := of_decide_eq_false h1
   refine sq (rg (xs rfl rfl (nl (et (ev_ret (evr_then (ret_pure' ttOk rfl rfl (congrArg bR (?_ : _ = _)))))))))
   first | rfl | (exfalso; simp_all; done) | (exfalso; omega)
 · try have d1 := of_decide_eq_true h1
   refine ev_skip (et (sq (sq (rg (xf ttOk rfl rfl (xl ttOk rfl rfl (xf ttOk rfl rfl (xl ttOk rfl rfl (evl_call (nm := 15) (cf rfl) (e_disk ⟨_, _⟩) (rs_of rfl) rfl rfl rfl (xo (q_not rfl) rfl (nl (et (ev_cond_n rfl (fun h2 => ?_) (fun h2 => ?_))))))))))))))
   · try have d2 := of_decide_eq_false h2
     refine sq (rg (xs rfl rfl (nl (et (ev_ret (evr_then (ret_pure' ttOk rfl rfl (congrArg bR (?_ : _ = _)))))))))
     first | rfl | (exfalso; simp_all; done) | (exfalso; omega)
   · try have d2 := of_decide_eq_true h2
     refine ev_skip (et (sq (rg (xs rfl rfl (nl (et (ev_ret (ret_pure' ttOk rfl rfl (congrArg bR (?_ : _ = _))))))))))
     first | rfl | (exfalso; simp_all; done) | (exfalso; omega)
theorem e_mark (m : Mark) : Pure Tryz.prog 132 [many (markC m), many (markC m)] (bR true) := by
 refine pure_intro (N := 20) Tryz.func132 rfl rfl rfl rfl (fun H w => ?_)
 refine sq (rg (evl_e (e_box rfl rfl rfl rfl) (evl_e (e_box rfl rfl rfl rfl) (xs rfl rfl (nl (et (sq (sq (rg (xf ttOk rfl rfl (xl ttOk rfl rfl (xf ttOk rfl rfl (xl ttOk rfl rfl (xb ttOk rfl rfl (nl (et (ev_cond rfl (fun h1 => ?_) (fun h1 => ?_))))))))))))))))))
 · try have d1 := of_decide_eq_true h1
   refine sq (rg (xs rfl rfl (nl (et (ev_ret (evr_then (ret_pure' ttOk rfl rfl (congrArg bR (?_ : _ = _)))))))))
   first | rfl | (exfalso; simp_all; done) | (exfalso; omega)
 · try have d1 := of_decide_eq_false h1
   refine ev_skip (et (sq (sq (rg (xf ttOk rfl rfl (xl ttOk rfl rfl (xf ttOk rfl rfl (xl ttOk rfl rfl (xb ttOk rfl rfl (nl (et (ev_cond rfl (fun h2 => ?_) (fun h2 => ?_)))))))))))))
   · try have d2 := of_decide_eq_true h2
     refine sq (rg (xs rfl rfl (nl (et (ev_ret (evr_then (ret_pure' ttOk rfl rfl (congrArg bR (?_ : _ = _)))))))))
     first | rfl | (exfalso; simp_all; done) | (exfalso; omega)
   · try have d2 := of_decide_eq_false h2
     refine ev_skip (et (sq (sq (rg (xf ttOk rfl rfl (xl ttOk rfl rfl (xf ttOk rfl rfl (xl ttOk rfl rfl (xb ttOk rfl rfl (nl (et (ev_cond rfl (fun h3 => ?_) (fun h3 => ?_)))))))))))))
     · try have d3 := of_decide_eq_true h3
       refine sq (rg (xs rfl rfl (nl (et (ev_ret (evr_then (ret_pure' ttOk rfl rfl (congrArg bR (?_ : _ = _)))))))))
       first | rfl | (exfalso; simp_all; done) | (exfalso; omega)
     · try have d3 := of_decide_eq_false h3
       refine ev_skip (et (sq (rg (xs rfl rfl (nl (et (ev_ret (ret_pure' ttOk rfl rfl (congrArg bR (?_ : _ = _))))))))))
       first | rfl | (exfalso; simp_all; done) | (exfalso; omega)
theorem e_marks (l : List Mark) : Pure Tryz.prog 61 [one (marks l), one (marks l)] (bR true) := by
 refine pure_intro (N := 27) Tryz.func61 rfl rfl rfl rfl (fun H w => ?_)
 refine ev_lenm (t := 0) rfl (fun hL => ?_)
 refine ev_lenm (t := 1) rfl (fun hM => ?_)
 refine sq (rg (xs rfl rfl (nl (et (sq (sq (rg (xm rfl rfl (xo (q_len_map ttOk rfl rfl) rfl (xm rfl rfl (xo (q_len_map ttOk rfl rfl) rfl (xb ttOk rfl rfl (nl (et (ev_cond rfl (fun h1 => ?_) (fun h1 => ?_))))))))))))))))
 · try have d1 := of_decide_eq_true h1
   refine sq (rg (xs rfl rfl (nl (et (ev_ret (evr_then (ret_pure' ttOk rfl rfl (congrArg bR (?_ : _ = _)))))))))
   first | rfl | (exfalso; simp_all; done) | (exfalso; omega)
 · try have d1 := of_decide_eq_false h1
   refine ev_skip (et (sq (sq (rg (xs rfl rfl (nl (et (ev_blk (ev_loop (fun k : Nat => (⟨[(5, iV k), (0, cV (marks l)), (1, cV (marks l))], [], [], []⟩ : St)) (fun k => k ≤ l.length) (fun k => l.length - k) 0 [] (by simp) ⟨by (repeat first | exact trivial | refine ⟨rfl, ?_⟩), by (repeat first | exact trivial | refine ⟨rfl, ?_⟩), by (repeat first | exact trivial | refine ⟨⟨_, rfl, rfl⟩, ?_⟩), by (repeat first | exact trivial | refine ⟨⟨_, rfl, rfl⟩, ?_⟩), rfl⟩ ?_)))))))))
   intro k hp
   have p0 := hp
   show Ev _ _ _ _ (⟨[(5, iV k), (0, cV (marks l)), (1, cV (marks l))], [], [], []⟩ : St)
   refine sq (sq (rg (xm rfl rfl (xm rfl rfl (xo (q_len_map ttOk rfl rfl) rfl (xb ttOk rfl rfl (nl (et (ev_cond rfl (fun h2 => ?_) (fun h2 => ?_))))))))))
   · try have d2 := of_decide_eq_true h2
     refine ev_skip (et (sq (ev_blk (sq (ev_drawq [] mo (rdk_take 0 rfl (by kernel_rfl) trivial (q_move rfl) rfl (rdk_take 1 rfl (by kernel_rfl) trivial (q_move rfl) rfl (rdk_take 2 rfl (by kernel_rfl) trivial (q_ix_map ttOk rfl rfl rfl rfl (by omega)) rfl (rdk_take 3 rfl (by kernel_rfl) trivial (q_load ttOk rfl) rfl (rdk_take 4 rfl (by kernel_rfl) trivial (q_move rfl) rfl (rdk_take 5 rfl (by kernel_rfl) trivial (q_move rfl) rfl (rdk_take 6 rfl (by kernel_rfl) trivial (q_ix_map ttOk rfl rfl rfl rfl (by omega)) rfl (rdk_take 7 rfl (by kernel_rfl) trivial (q_load ttOk rfl) rfl (rdk_one 8 (by kernel_rfl) (rdo_call (nm := 25) rfl trivial (cf rfl) (e_mark ⟨_, _, _⟩) (rs_of rfl) rfl rfl rfl (rdk_take 9 rfl (by kernel_rfl) trivial (q_not rfl) rfl (rdk_endq (by kernel_rfl) (et (ev_cond_n rfl (fun h3 => ?_) (fun h3 => ?_))))))))))))))))))))
     · try have d3 := of_decide_eq_false h3
       refine sq (rg (xs rfl rfl (nl (et (ev_ret (evr_blk (evr_then (evr_then (evr_blk (evr_then (ret_pure' ttOk rfl rfl (congrArg bR (?_ : _ = _)))))))))))))
       first | rfl | (exfalso; simp_all; done) | (exfalso; omega)
     · try have d3 := of_decide_eq_true h3
       refine ev_skip (eb (et (rg (xm rfl rfl (xa rfl rfl rfl (by omega) rfl (xs rfl rfl (nl (eve_round (k + 1) [] ?hp ⟨by (repeat first | exact trivial | refine ⟨rfl, ?_⟩), by (repeat first | exact trivial | refine ⟨rfl, ?_⟩), by (repeat first | exact trivial | refine ⟨⟨_, rfl, rfl⟩, ?_⟩), by (repeat first | exact trivial | refine ⟨⟨_, rfl, rfl⟩, ?_⟩), rfl⟩))))))))
       case hp => exact ⟨by omega, by omega⟩
   · try have d2 := of_decide_eq_false h2
     refine ev_exit (evx_then (evx_then (evx_hit (et (sq (rg (xs rfl rfl (nl (et (ev_ret (ret_pure' ttOk rfl rfl (congrArg bR (?_ : _ = _)))))))))))))
     first | rfl | (exfalso; simp_all; done) | (exfalso; omega)
theorem e_head (h : Head) : Pure Tryz.prog 26 [many (headC h), many (headC h)] (bR true) := by
 refine pure_intro (N := 26) Tryz.func26 rfl rfl rfl rfl (fun H w => ?_)
 refine sq (rg (evl_e (e_box rfl rfl rfl rfl) (evl_e (e_box rfl rfl rfl rfl) (xs rfl rfl (nl (et (sq (sq (rg (xf ttOk rfl rfl (xl ttOk rfl rfl (xf ttOk rfl rfl (xl ttOk rfl rfl (xb ttOk rfl rfl (nl (et (ev_cond rfl (fun h1 => ?_) (fun h1 => ?_))))))))))))))))))
 · try have d1 := of_decide_eq_true h1
   refine sq (rg (xs rfl rfl (nl (et (ev_ret (evr_then (ret_pure' ttOk rfl rfl (congrArg bR (?_ : _ = _)))))))))
   first | rfl | (exfalso; simp_all; done) | (exfalso; omega)
 · try have d1 := of_decide_eq_false h1
   refine ev_skip (et (sq (sq (rg (xf ttOk rfl rfl (xl ttOk rfl rfl (xf ttOk rfl rfl (xl ttOk rfl rfl (xb ttOk rfl rfl (nl (et (ev_cond rfl (fun h2 => ?_) (fun h2 => ?_)))))))))))))
   · try have d2 := of_decide_eq_true h2
     refine sq (rg (xs rfl rfl (nl (et (ev_ret (evr_then (ret_pure' ttOk rfl rfl (congrArg bR (?_ : _ = _)))))))))
     first | rfl | (exfalso; simp_all; done) | (exfalso; omega)
   · try have d2 := of_decide_eq_false h2
     refine ev_skip (et (sq (sq (rg (xf ttOk rfl rfl (xl ttOk rfl rfl (xf ttOk rfl rfl (xl ttOk rfl rfl (xb ttOk rfl rfl (nl (et (ev_cond rfl (fun h3 => ?_) (fun h3 => ?_)))))))))))))
     · try have d3 := of_decide_eq_true h3
       refine sq (rg (xs rfl rfl (nl (et (ev_ret (evr_then (ret_pure' ttOk rfl rfl (congrArg bR (?_ : _ = _)))))))))
       first | rfl | (exfalso; simp_all; done) | (exfalso; omega)
     · try have d3 := of_decide_eq_false h3
       refine ev_skip (et (sq (sq (rg (xf ttOk rfl rfl (xl ttOk rfl rfl (xf ttOk rfl rfl (xl ttOk rfl rfl (evl_call (nm := 24) (cf rfl) (e_marks _) (rs_of rfl) rfl rfl rfl (xo (q_not rfl) rfl (nl (et (ev_cond_n rfl (fun h4 => ?_) (fun h4 => ?_))))))))))))))
       · try have d4 := of_decide_eq_false h4
         refine sq (rg (xs rfl rfl (nl (et (ev_ret (evr_then (ret_pure' ttOk rfl rfl (congrArg bR (?_ : _ = _)))))))))
         first | rfl | (exfalso; simp_all; done) | (exfalso; omega)
       · try have d4 := of_decide_eq_true h4
         refine ev_skip (et (sq (rg (xs rfl rfl (nl (et (ev_ret (ret_pure' ttOk rfl rfl (congrArg bR (?_ : _ = _))))))))))
         first | rfl | (exfalso; simp_all; done) | (exfalso; omega)

end Go.Proofs.YtphaggopgdbojaaGreat
