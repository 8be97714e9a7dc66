/- Walks of functions of the program, printed by a program of the prover. -/
import Derived.Test.YtinmcdcmidlgpaaGreatDoorFuF9
import Derived.Test.YtinmcdcmidlgpaaGreatDoorFuVN
namespace Go.Proofs.YtinmcdcmidlgpaaGreatDoor
open Go.ChangeShapes Go.WideShapes Go.ChangeAt Go.RowKit
set_option linter.unusedVariables false
set_option linter.unusedSimpArgs false
set_option maxHeartbeats 1000000
set_option maxRecDepth 100000
attribute [local irreducible] EvL Ev EvE Quiet Eff Pure RDk RDb RDo
structure Head where
 num : Int
 base : Int
 time : Int
 seen : List Mark
@[reducible] def headC (h : Head) : List C := [iC h.num, iC h.base, iC h.time, marks h.seen]
@[reducible] def marksR (l : List Mark) : RC := .s 94 3 (l.map markC)
@[reducible] def headR (h : Head) : List RC := [.v (.int .i64 h.num), .v (.int .i64 h.base), .v (.int .i64 h.time), marksR h.seen]
def headOk (h : Head) : Bool := inB h.base 0 2000 && (inB h.num 0 h.base && (timeOk h.time && ((decide (h.base > 0) || decide (h.time = 0)) && (seenOk h.seen && decide (lastF h.seen = h.base)))))
theorem c_HeadOk (h : Head) : Pure Tryz.prog 95 [many (headC h)] (bR (headOk h)) := by
 refine pure_intro (N := 41) Tryz.func95 rfl rfl rfl rfl (fun H w => ?_)
 refine sq (rg (evl_e (e_box rfl rfl rfl rfl) (xs rfl rfl (nl (et (sq (ev_drawq [] mo (rk0 0 rfl (q_fieldAddr ttOk rfl) rfl (rk0 1 rfl (q_load ttOk rfl) rfl (rdk_one 2 kr (rdo_call (nm := 5) rfl trivial (cf rfl) (c_l1In _ _ _) (rs_of rfl) rfl rfl rfl (rk0 3 rfl (q_move rfl) rfl (rdk_part (t := 6) rfl (fun h1 => ?_) (fun h1 => ?_))))))))))))))
 ·refine rkt 4 rfl rfl rfl h1 (q_fieldAddr ttOk rfl) rfl (rkt 5 rfl rfl rfl h1 (q_load ttOk rfl) rfl (rkt 6 rfl rfl rfl h1 (q_fieldAddr ttOk rfl) rfl (rkt 7 rfl rfl rfl h1 (q_load ttOk rfl) rfl (rdk_one 8 kr (rdo_call (nm := 11) rfl ⟨_, _, rfl, rfl, h1⟩ (cf rfl) (c_l1In _ _ _) (rs_of rfl) rfl rfl rfl (rk0 9 rfl (q_pick_t rfl h1 rfl) rfl (rk0 10 rfl (q_move rfl) rfl (rdk_part (t := 13) rfl (fun h2 => ?_) (fun h2 => ?_)))))))))
  ·refine rkt 11 rfl rfl rfl h2 (q_fieldAddr ttOk rfl) rfl (rkt 12 rfl rfl rfl h2 (q_load ttOk rfl) rfl (rdk_one 13 kr (rdo_call (nm := 16) rfl ⟨_, _, rfl, rfl, h2⟩ (cf rfl) (c_TimeOk _) (rs_of rfl) rfl rfl rfl (rk0 14 rfl (q_pick_t rfl h2 rfl) rfl (rk0 15 rfl (q_move rfl) rfl (rdk_part (t := 18) rfl (fun h3 => ?_) (fun h3 => ?_)))))))
   ·refine rkt 16 rfl rfl rfl h3 (q_fieldAddr ttOk rfl) rfl (rkt 17 rfl rfl rfl h3 (q_load ttOk rfl) rfl (rkt 18 rfl rfl rfl h3 (q_bin ttOk rfl) rfl (rkt 19 rfl rfl rfl h3 (q_move rfl) rfl (rdk_part (t := 22) rfl (fun h4 => ?_) (fun h4 => ?_)))))
    ·refine rks 20 rfl rfl rfl h4 rfl (rks 21 rfl rfl rfl h4 rfl (rks 22 rfl rfl rfl h4 rfl (rkt 23 rfl rfl rfl h3 (q_pick_t rfl h4 rfl) rfl (rk0 24 rfl (q_pick_t rfl h3 rfl) rfl (rk0 25 rfl (q_move rfl) rfl (rkt 26 rfl rfl rfl rfl (q_fieldAddr ttOk rfl) rfl (rkt 27 rfl rfl rfl rfl (q_load ttOk rfl) rfl (rdk_one 28 kr (rdo_call (nm := 31) rfl ⟨_, _, rfl, rfl, rfl⟩ (cf rfl) (c_SeenOk _) (rs_of rfl) rfl rfl rfl (rk0 29 rfl (q_pick_t rfl rfl rfl) rfl (rk0 30 rfl (q_move rfl) rfl (rdk_part (t := 33) rfl (fun h5 => ?_) (fun h5 => ?_)))))))))))))
     ·refine rkt 31 rfl rfl rfl h5 (q_fieldAddr ttOk rfl) rfl (rkt 32 rfl rfl rfl h5 (q_load ttOk rfl) rfl (rkt 34 rfl rfl rfl h5 (q_fieldAddr ttOk rfl) rfl (rkt 35 rfl rfl rfl h5 (q_load ttOk rfl) rfl (rdk_one 33 kr (rdo_call (nm := 36) rfl ⟨_, _, rfl, rfl, h5⟩ (cf rfl) (c_LastSeen _) (rs_of rfl) rfl rfl rfl (rkt 36 rfl rfl rfl h5 (q_bin ttOk rfl) rfl (rk0 37 rfl (q_pick_t rfl h5 rfl) rfl (rk0 38 rfl (q_assign rfl) rfl (rdk_endq kr (et (ev_ret (ret_pure' ttOk rfl rfl (congrArg bR (?_ : _ = _))))))))))))))
      simp_all [headOk] <;> (intros; omega)
     ·refine rks 31 rfl rfl rfl h5 rfl (rks 32 rfl rfl rfl h5 rfl (rks 33 rfl rfl rfl h5 rfl (rks 34 rfl rfl rfl h5 rfl (rks 35 rfl rfl rfl h5 rfl (rks 36 rfl rfl rfl h5 rfl (rk0 37 rfl (q_pick_f rfl h5 rfl) rfl (rk0 38 rfl (q_assign rfl) rfl (rdk_endq kr (et (ev_ret (ret_pure' ttOk rfl rfl (congrArg bR (?_ : _ = _)))))))))))))
      simp_all [headOk] <;> (intros; omega)
    ·refine rkt 20 rfl rfl rfl h4 (q_fieldAddr ttOk rfl) rfl (rkt 21 rfl rfl rfl h4 (q_load ttOk rfl) rfl (rkt 22 rfl rfl rfl h4 (q_bin ttOk rfl) rfl (rkt 23 rfl rfl rfl h3 (q_pick_f rfl h4 rfl) rfl (rk0 24 rfl (q_pick_t rfl h3 rfl) rfl (rk0 25 rfl (q_move rfl) rfl (rdk_part (t := 28) rfl (fun h6 => ?_) (fun h6 => ?_)))))))
     ·refine rkt 26 rfl rfl rfl h6 (q_fieldAddr ttOk rfl) rfl (rkt 27 rfl rfl rfl h6 (q_load ttOk rfl) rfl (rdk_one 28 kr (rdo_call (nm := 31) rfl ⟨_, _, rfl, rfl, h6⟩ (cf rfl) (c_SeenOk _) (rs_of rfl) rfl rfl rfl (rk0 29 rfl (q_pick_t rfl h6 rfl) rfl (rk0 30 rfl (q_move rfl) rfl (rdk_part (t := 33) rfl (fun h7 => ?_) (fun h7 => ?_)))))))
      ·refine rkt 31 rfl rfl rfl h7 (q_fieldAddr ttOk rfl) rfl (rkt 32 rfl rfl rfl h7 (q_load ttOk rfl) rfl (rkt 34 rfl rfl rfl h7 (q_fieldAddr ttOk rfl) rfl (rkt 35 rfl rfl rfl h7 (q_load ttOk rfl) rfl (rdk_one 33 kr (rdo_call (nm := 36) rfl ⟨_, _, rfl, rfl, h7⟩ (cf rfl) (c_LastSeen _) (rs_of rfl) rfl rfl rfl (rkt 36 rfl rfl rfl h7 (q_bin ttOk rfl) rfl (rk0 37 rfl (q_pick_t rfl h7 rfl) rfl (rk0 38 rfl (q_assign rfl) rfl (rdk_endq kr (et (ev_ret (ret_pure' ttOk rfl rfl (congrArg bR (?_ : _ = _))))))))))))))
       simp_all [headOk] <;> (intros; omega)
      ·refine rks 31 rfl rfl rfl h7 rfl (rks 32 rfl rfl rfl h7 rfl (rks 33 rfl rfl rfl h7 rfl (rks 34 rfl rfl rfl h7 rfl (rks 35 rfl rfl rfl h7 rfl (rks 36 rfl rfl rfl h7 rfl (rk0 37 rfl (q_pick_f rfl h7 rfl) rfl (rk0 38 rfl (q_assign rfl) rfl (rdk_endq kr (et (ev_ret (ret_pure' ttOk rfl rfl (congrArg bR (?_ : _ = _)))))))))))))
       simp_all [headOk] <;> (intros; omega)
     ·refine rks 26 rfl rfl rfl h6 rfl (rks 27 rfl rfl rfl h6 rfl (rks 28 rfl rfl rfl h6 rfl (rk0 29 rfl (q_pick_f rfl h6 rfl) rfl (rk0 30 rfl (q_move rfl) rfl (rks 31 rfl rfl rfl rfl rfl (rks 32 rfl rfl rfl rfl rfl (rks 33 rfl rfl rfl rfl rfl (rks 34 rfl rfl rfl rfl rfl (rks 35 rfl rfl rfl rfl rfl (rks 36 rfl rfl rfl rfl rfl (rk0 37 rfl (q_pick_f rfl rfl rfl) rfl (rk0 38 rfl (q_assign rfl) rfl (rdk_endq kr (et (ev_ret (ret_pure' ttOk rfl rfl (congrArg bR (?_ : _ = _))))))))))))))))))
      simp_all [headOk] <;> (intros; omega)
   ·refine rks 16 rfl rfl rfl h3 rfl (rks 17 rfl rfl rfl h3 rfl (rks 18 rfl rfl rfl h3 rfl (rks 19 rfl rfl rfl h3 rfl (rdk_skip 20 rfl kr ⟨_, rfl, .inr rfl⟩ rfl (rdk_skip 21 rfl kr ⟨_, rfl, .inr rfl⟩ rfl (rdk_skip 22 rfl kr ⟨_, rfl, .inr rfl⟩ rfl (rks 23 rfl rfl rfl h3 rfl (rk0 24 rfl (q_pick_f rfl h3 rfl) rfl (rk0 25 rfl (q_move rfl) rfl (rks 26 rfl rfl rfl rfl rfl (rks 27 rfl rfl rfl rfl rfl (rks 28 rfl rfl rfl rfl rfl (rk0 29 rfl (q_pick_f rfl rfl rfl) rfl (rk0 30 rfl (q_move rfl) rfl (rks 31 rfl rfl rfl rfl rfl (rks 32 rfl rfl rfl rfl rfl (rks 33 rfl rfl rfl rfl rfl (rks 34 rfl rfl rfl rfl rfl (rks 35 rfl rfl rfl rfl rfl (rks 36 rfl rfl rfl rfl rfl (rk0 37 rfl (q_pick_f rfl rfl rfl) rfl (rk0 38 rfl (q_assign rfl) rfl (rdk_endq kr (et (ev_ret (ret_pure' ttOk rfl rfl (congrArg bR (?_ : _ = _))))))))))))))))))))))))))))
    simp_all [headOk] <;> (intros; omega)
  ·refine rks 11 rfl rfl rfl h2 rfl (rks 12 rfl rfl rfl h2 rfl (rks 13 rfl rfl rfl h2 rfl (rk0 14 rfl (q_pick_f rfl h2 rfl) rfl (rk0 15 rfl (q_move rfl) rfl (rks 16 rfl rfl rfl rfl rfl (rks 17 rfl rfl rfl rfl rfl (rks 18 rfl rfl rfl rfl rfl (rks 19 rfl rfl rfl rfl rfl (rdk_skip 20 rfl kr ⟨_, rfl, .inr rfl⟩ rfl (rdk_skip 21 rfl kr ⟨_, rfl, .inr rfl⟩ rfl (rdk_skip 22 rfl kr ⟨_, rfl, .inr rfl⟩ rfl (rks 23 rfl rfl rfl rfl rfl (rk0 24 rfl (q_pick_f rfl rfl rfl) rfl (rk0 25 rfl (q_move rfl) rfl (rks 26 rfl rfl rfl rfl rfl (rks 27 rfl rfl rfl rfl rfl (rks 28 rfl rfl rfl rfl rfl (rk0 29 rfl (q_pick_f rfl rfl rfl) rfl (rk0 30 rfl (q_move rfl) rfl (rks 31 rfl rfl rfl rfl rfl (rks 32 rfl rfl rfl rfl rfl (rks 33 rfl rfl rfl rfl rfl (rks 34 rfl rfl rfl rfl rfl (rks 35 rfl rfl rfl rfl rfl (rks 36 rfl rfl rfl rfl rfl (rk0 37 rfl (q_pick_f rfl rfl rfl) rfl (rk0 38 rfl (q_assign rfl) rfl (rdk_endq kr (et (ev_ret (ret_pure' ttOk rfl rfl (congrArg bR (?_ : _ = _)))))))))))))))))))))))))))))))))
   simp_all [headOk] <;> (intros; omega)
 ·refine rks 4 rfl rfl rfl h1 rfl (rks 5 rfl rfl rfl h1 rfl (rks 6 rfl rfl rfl h1 rfl (rks 7 rfl rfl rfl h1 rfl (rks 8 rfl rfl rfl h1 rfl (rk0 9 rfl (q_pick_f rfl h1 rfl) rfl (rk0 10 rfl (q_move rfl) rfl (rks 11 rfl rfl rfl rfl rfl (rks 12 rfl rfl rfl rfl rfl (rks 13 rfl rfl rfl rfl rfl (rk0 14 rfl (q_pick_f rfl rfl rfl) rfl (rk0 15 rfl (q_move rfl) rfl (rks 16 rfl rfl rfl rfl rfl (rks 17 rfl rfl rfl rfl rfl (rks 18 rfl rfl rfl rfl rfl (rks 19 rfl rfl rfl rfl rfl (rdk_skip 20 rfl kr ⟨_, rfl, .inr rfl⟩ rfl (rdk_skip 21 rfl kr ⟨_, rfl, .inr rfl⟩ rfl (rdk_skip 22 rfl kr ⟨_, rfl, .inr rfl⟩ rfl (rks 23 rfl rfl rfl rfl rfl (rk0 24 rfl (q_pick_f rfl rfl rfl) rfl (rk0 25 rfl (q_move rfl) rfl (rks 26 rfl rfl rfl rfl rfl (rks 27 rfl rfl rfl rfl rfl (rks 28 rfl rfl rfl rfl rfl (rk0 29 rfl (q_pick_f rfl rfl rfl) rfl (rk0 30 rfl (q_move rfl) rfl (rks 31 rfl rfl rfl rfl rfl (rks 32 rfl rfl rfl rfl rfl (rks 33 rfl rfl rfl rfl rfl (rks 34 rfl rfl rfl rfl rfl (rks 35 rfl rfl rfl rfl rfl (rks 36 rfl rfl rfl rfl rfl (rk0 37 rfl (q_pick_f rfl rfl rfl) rfl (rk0 38 rfl (q_assign rfl) rfl (rdk_endq kr (et (ev_ret (ret_pure' ttOk rfl rfl (congrArg bR (?_ : _ = _))))))))))))))))))))))))))))))))))))))))
  simp_all [headOk] <;> (intros; omega)
theorem c_HeadOk' (h : Head) : Pure Tryz.prog 115 [many (headC h)] (bR (headOk h)) := by
 refine pure_intro (N := 41) Tryz.func115 rfl rfl rfl rfl (fun H w => ?_)
 refine sq (rg (evl_e (e_box rfl rfl rfl rfl) (xs rfl rfl (nl (et (sq (ev_drawq [] mo (rk0 0 rfl (q_fieldAddr ttOk rfl) rfl (rk0 1 rfl (q_load ttOk rfl) rfl (rdk_one 2 kr (rdo_call (nm := 5) rfl trivial (cf rfl) (c_between _ _ _) (rs_of rfl) rfl rfl rfl (rk0 3 rfl (q_move rfl) rfl (rdk_part (t := 6) rfl (fun h1 => ?_) (fun h1 => ?_))))))))))))))
 ·refine rkt 4 rfl rfl rfl h1 (q_fieldAddr ttOk rfl) rfl (rkt 5 rfl rfl rfl h1 (q_load ttOk rfl) rfl (rkt 6 rfl rfl rfl h1 (q_fieldAddr ttOk rfl) rfl (rkt 7 rfl rfl rfl h1 (q_load ttOk rfl) rfl (rdk_one 8 kr (rdo_call (nm := 11) rfl ⟨_, _, rfl, rfl, h1⟩ (cf rfl) (c_between _ _ _) (rs_of rfl) rfl rfl rfl (rk0 9 rfl (q_pick_t rfl h1 rfl) rfl (rk0 10 rfl (q_move rfl) rfl (rdk_part (t := 13) rfl (fun h2 => ?_) (fun h2 => ?_)))))))))
  ·refine rkt 11 rfl rfl rfl h2 (q_fieldAddr ttOk rfl) rfl (rkt 12 rfl rfl rfl h2 (q_load ttOk rfl) rfl (rdk_one 13 kr (rdo_call (nm := 16) rfl ⟨_, _, rfl, rfl, h2⟩ (cf rfl) (c_TimeOk' _) (rs_of rfl) rfl rfl rfl (rk0 14 rfl (q_pick_t rfl h2 rfl) rfl (rk0 15 rfl (q_move rfl) rfl (rdk_part (t := 18) rfl (fun h3 => ?_) (fun h3 => ?_)))))))
   ·refine rkt 16 rfl rfl rfl h3 (q_fieldAddr ttOk rfl) rfl (rkt 17 rfl rfl rfl h3 (q_load ttOk rfl) rfl (rkt 18 rfl rfl rfl h3 (q_bin ttOk rfl) rfl (rkt 19 rfl rfl rfl h3 (q_move rfl) rfl (rdk_part (t := 22) rfl (fun h4 => ?_) (fun h4 => ?_)))))
    ·refine rks 20 rfl rfl rfl h4 rfl (rks 21 rfl rfl rfl h4 rfl (rks 22 rfl rfl rfl h4 rfl (rkt 23 rfl rfl rfl h3 (q_pick_t rfl h4 rfl) rfl (rk0 24 rfl (q_pick_t rfl h3 rfl) rfl (rk0 25 rfl (q_move rfl) rfl (rkt 26 rfl rfl rfl rfl (q_fieldAddr ttOk rfl) rfl (rkt 27 rfl rfl rfl rfl (q_load ttOk rfl) rfl (rdk_one 28 kr (rdo_call (nm := 31) rfl ⟨_, _, rfl, rfl, rfl⟩ (cf rfl) (c_SeenOk' _) (rs_of rfl) rfl rfl rfl (rk0 29 rfl (q_pick_t rfl rfl rfl) rfl (rk0 30 rfl (q_move rfl) rfl (rdk_part (t := 33) rfl (fun h5 => ?_) (fun h5 => ?_)))))))))))))
     ·refine rkt 31 rfl rfl rfl h5 (q_fieldAddr ttOk rfl) rfl (rkt 32 rfl rfl rfl h5 (q_load ttOk rfl) rfl (rkt 34 rfl rfl rfl h5 (q_fieldAddr ttOk rfl) rfl (rkt 35 rfl rfl rfl h5 (q_load ttOk rfl) rfl (rdk_one 33 kr (rdo_call (nm := 36) rfl ⟨_, _, rfl, rfl, h5⟩ (cf rfl) (c_lastSeen _) (rs_of rfl) rfl rfl rfl (rkt 36 rfl rfl rfl h5 (q_bin ttOk rfl) rfl (rk0 37 rfl (q_pick_t rfl h5 rfl) rfl (rk0 38 rfl (q_assign rfl) rfl (rdk_endq kr (et (ev_ret (ret_pure' ttOk rfl rfl (congrArg bR (?_ : _ = _))))))))))))))
      simp_all [headOk] <;> (intros; omega)
     ·refine rks 31 rfl rfl rfl h5 rfl (rks 32 rfl rfl rfl h5 rfl (rks 33 rfl rfl rfl h5 rfl (rks 34 rfl rfl rfl h5 rfl (rks 35 rfl rfl rfl h5 rfl (rks 36 rfl rfl rfl h5 rfl (rk0 37 rfl (q_pick_f rfl h5 rfl) rfl (rk0 38 rfl (q_assign rfl) rfl (rdk_endq kr (et (ev_ret (ret_pure' ttOk rfl rfl (congrArg bR (?_ : _ = _)))))))))))))
      simp_all [headOk] <;> (intros; omega)
    ·refine rkt 20 rfl rfl rfl h4 (q_fieldAddr ttOk rfl) rfl (rkt 21 rfl rfl rfl h4 (q_load ttOk rfl) rfl (rkt 22 rfl rfl rfl h4 (q_bin ttOk rfl) rfl (rkt 23 rfl rfl rfl h3 (q_pick_f rfl h4 rfl) rfl (rk0 24 rfl (q_pick_t rfl h3 rfl) rfl (rk0 25 rfl (q_move rfl) rfl (rdk_part (t := 28) rfl (fun h6 => ?_) (fun h6 => ?_)))))))
     ·refine rkt 26 rfl rfl rfl h6 (q_fieldAddr ttOk rfl) rfl (rkt 27 rfl rfl rfl h6 (q_load ttOk rfl) rfl (rdk_one 28 kr (rdo_call (nm := 31) rfl ⟨_, _, rfl, rfl, h6⟩ (cf rfl) (c_SeenOk' _) (rs_of rfl) rfl rfl rfl (rk0 29 rfl (q_pick_t rfl h6 rfl) rfl (rk0 30 rfl (q_move rfl) rfl (rdk_part (t := 33) rfl (fun h7 => ?_) (fun h7 => ?_)))))))
      ·refine rkt 31 rfl rfl rfl h7 (q_fieldAddr ttOk rfl) rfl (rkt 32 rfl rfl rfl h7 (q_load ttOk rfl) rfl (rkt 34 rfl rfl rfl h7 (q_fieldAddr ttOk rfl) rfl (rkt 35 rfl rfl rfl h7 (q_load ttOk rfl) rfl (rdk_one 33 kr (rdo_call (nm := 36) rfl ⟨_, _, rfl, rfl, h7⟩ (cf rfl) (c_lastSeen _) (rs_of rfl) rfl rfl rfl (rkt 36 rfl rfl rfl h7 (q_bin ttOk rfl) rfl (rk0 37 rfl (q_pick_t rfl h7 rfl) rfl (rk0 38 rfl (q_assign rfl) rfl (rdk_endq kr (et (ev_ret (ret_pure' ttOk rfl rfl (congrArg bR (?_ : _ = _))))))))))))))
       simp_all [headOk] <;> (intros; omega)
      ·refine rks 31 rfl rfl rfl h7 rfl (rks 32 rfl rfl rfl h7 rfl (rks 33 rfl rfl rfl h7 rfl (rks 34 rfl rfl rfl h7 rfl (rks 35 rfl rfl rfl h7 rfl (rks 36 rfl rfl rfl h7 rfl (rk0 37 rfl (q_pick_f rfl h7 rfl) rfl (rk0 38 rfl (q_assign rfl) rfl (rdk_endq kr (et (ev_ret (ret_pure' ttOk rfl rfl (congrArg bR (?_ : _ = _)))))))))))))
       simp_all [headOk] <;> (intros; omega)
     ·refine rks 26 rfl rfl rfl h6 rfl (rks 27 rfl rfl rfl h6 rfl (rks 28 rfl rfl rfl h6 rfl (rk0 29 rfl (q_pick_f rfl h6 rfl) rfl (rk0 30 rfl (q_move rfl) rfl (rks 31 rfl rfl rfl rfl rfl (rks 32 rfl rfl rfl rfl rfl (rks 33 rfl rfl rfl rfl rfl (rks 34 rfl rfl rfl rfl rfl (rks 35 rfl rfl rfl rfl rfl (rks 36 rfl rfl rfl rfl rfl (rk0 37 rfl (q_pick_f rfl rfl rfl) rfl (rk0 38 rfl (q_assign rfl) rfl (rdk_endq kr (et (ev_ret (ret_pure' ttOk rfl rfl (congrArg bR (?_ : _ = _))))))))))))))))))
      simp_all [headOk] <;> (intros; omega)
   ·refine rks 16 rfl rfl rfl h3 rfl (rks 17 rfl rfl rfl h3 rfl (rks 18 rfl rfl rfl h3 rfl (rks 19 rfl rfl rfl h3 rfl (rdk_skip 20 rfl kr ⟨_, rfl, .inr rfl⟩ rfl (rdk_skip 21 rfl kr ⟨_, rfl, .inr rfl⟩ rfl (rdk_skip 22 rfl kr ⟨_, rfl, .inr rfl⟩ rfl (rks 23 rfl rfl rfl h3 rfl (rk0 24 rfl (q_pick_f rfl h3 rfl) rfl (rk0 25 rfl (q_move rfl) rfl (rks 26 rfl rfl rfl rfl rfl (rks 27 rfl rfl rfl rfl rfl (rks 28 rfl rfl rfl rfl rfl (rk0 29 rfl (q_pick_f rfl rfl rfl) rfl (rk0 30 rfl (q_move rfl) rfl (rks 31 rfl rfl rfl rfl rfl (rks 32 rfl rfl rfl rfl rfl (rks 33 rfl rfl rfl rfl rfl (rks 34 rfl rfl rfl rfl rfl (rks 35 rfl rfl rfl rfl rfl (rks 36 rfl rfl rfl rfl rfl (rk0 37 rfl (q_pick_f rfl rfl rfl) rfl (rk0 38 rfl (q_assign rfl) rfl (rdk_endq kr (et (ev_ret (ret_pure' ttOk rfl rfl (congrArg bR (?_ : _ = _))))))))))))))))))))))))))))
    simp_all [headOk] <;> (intros; omega)
  ·refine rks 11 rfl rfl rfl h2 rfl (rks 12 rfl rfl rfl h2 rfl (rks 13 rfl rfl rfl h2 rfl (rk0 14 rfl (q_pick_f rfl h2 rfl) rfl (rk0 15 rfl (q_move rfl) rfl (rks 16 rfl rfl rfl rfl rfl (rks 17 rfl rfl rfl rfl rfl (rks 18 rfl rfl rfl rfl rfl (rks 19 rfl rfl rfl rfl rfl (rdk_skip 20 rfl kr ⟨_, rfl, .inr rfl⟩ rfl (rdk_skip 21 rfl kr ⟨_, rfl, .inr rfl⟩ rfl (rdk_skip 22 rfl kr ⟨_, rfl, .inr rfl⟩ rfl (rks 23 rfl rfl rfl rfl rfl (rk0 24 rfl (q_pick_f rfl rfl rfl) rfl (rk0 25 rfl (q_move rfl) rfl (rks 26 rfl rfl rfl rfl rfl (rks 27 rfl rfl rfl rfl rfl (rks 28 rfl rfl rfl rfl rfl (rk0 29 rfl (q_pick_f rfl rfl rfl) rfl (rk0 30 rfl (q_move rfl) rfl (rks 31 rfl rfl rfl rfl rfl (rks 32 rfl rfl rfl rfl rfl (rks 33 rfl rfl rfl rfl rfl (rks 34 rfl rfl rfl rfl rfl (rks 35 rfl rfl rfl rfl rfl (rks 36 rfl rfl rfl rfl rfl (rk0 37 rfl (q_pick_f rfl rfl rfl) rfl (rk0 38 rfl (q_assign rfl) rfl (rdk_endq kr (et (ev_ret (ret_pure' ttOk rfl rfl (congrArg bR (?_ : _ = _)))))))))))))))))))))))))))))))))
   simp_all [headOk] <;> (intros; omega)
 ·refine rks 4 rfl rfl rfl h1 rfl (rks 5 rfl rfl rfl h1 rfl (rks 6 rfl rfl rfl h1 rfl (rks 7 rfl rfl rfl h1 rfl (rks 8 rfl rfl rfl h1 rfl (rk0 9 rfl (q_pick_f rfl h1 rfl) rfl (rk0 10 rfl (q_move rfl) rfl (rks 11 rfl rfl rfl rfl rfl (rks 12 rfl rfl rfl rfl rfl (rks 13 rfl rfl rfl rfl rfl (rk0 14 rfl (q_pick_f rfl rfl rfl) rfl (rk0 15 rfl (q_move rfl) rfl (rks 16 rfl rfl rfl rfl rfl (rks 17 rfl rfl rfl rfl rfl (rks 18 rfl rfl rfl rfl rfl (rks 19 rfl rfl rfl rfl rfl (rdk_skip 20 rfl kr ⟨_, rfl, .inr rfl⟩ rfl (rdk_skip 21 rfl kr ⟨_, rfl, .inr rfl⟩ rfl (rdk_skip 22 rfl kr ⟨_, rfl, .inr rfl⟩ rfl (rks 23 rfl rfl rfl rfl rfl (rk0 24 rfl (q_pick_f rfl rfl rfl) rfl (rk0 25 rfl (q_move rfl) rfl (rks 26 rfl rfl rfl rfl rfl (rks 27 rfl rfl rfl rfl rfl (rks 28 rfl rfl rfl rfl rfl (rk0 29 rfl (q_pick_f rfl rfl rfl) rfl (rk0 30 rfl (q_move rfl) rfl (rks 31 rfl rfl rfl rfl rfl (rks 32 rfl rfl rfl rfl rfl (rks 33 rfl rfl rfl rfl rfl (rks 34 rfl rfl rfl rfl rfl (rks 35 rfl rfl rfl rfl rfl (rks 36 rfl rfl rfl rfl rfl (rk0 37 rfl (q_pick_f rfl rfl rfl) rfl (rk0 38 rfl (q_assign rfl) rfl (rdk_endq kr (et (ev_ret (ret_pure' ttOk rfl rfl (congrArg bR (?_ : _ = _))))))))))))))))))))))))))))))))))))))))
  simp_all [headOk] <;> (intros; omega)
def slotM (l : List Int) (i : Nat) : List Mark := if l.getD (3 + 2 * i) 0 ≠ 0 ∨ l.getD (4 + 2 * i) 0 ≠ 0 then [⟨2 + i, l.getD (3 + 2 * i) 0, l.getD (4 + 2 * i) 0⟩] else []
def seenUp (l : List Int) : Nat → List Mark
 | 0 => []
 | k + 1 => seenUp l k ++ slotM l k
def noHead : Head := ⟨0, 0, 0, []⟩
def headOf (l : List Int) : Head := ⟨l.getD 0 0, l.getD 1 0, l.getD 2 0, seenUp l 4⟩
def rowHeadF (l : List Int) : Option Head := if l.length = 13 ∧ headOk (headOf l) = true ∧ l.getD 11 0 = l.getD 0 0 ∧ l.getD 12 0 = l.getD 0 0 then some (headOf l) else none
theorem get_map {α β : Type} {f : α → β} {L : List α} {k : Nat} (hk : k < L.length) : (L.map f)[k]? = some (f L[k]) := by rw [List.getElem?_map, List.getElem?_eq_getElem hk]; rfl
def headStep (x : Int) (acc : Head × Bool) (row : List Int) : Head × Bool := if (rowHeadF row).isSome = true ∧ ((rowHeadF row).getD noHead).num % 2 = x ∧ (acc.2 = false ∨ ((rowHeadF row).getD noHead).num > acc.1.num) then ((rowHeadF row).getD noHead, true) else acc
def headUp (t : Two) : Nat → Head × Bool
 | 0 => (noHead, false)
 | k + 1 => (rightF t k).foldl (headStep k) (headUp t k)
def headIn (t : Two) : Head × Bool := if keptOk t then headUp t 2 else (noHead, false)
def sumN {α : Type} (f : α → Nat) (l : List α) : Nat := (l.map f).sum
def g1 (q : Int) (i : Nat) : List C := [iC (q + i)]
def g3 (q : Int) (i : Nat) : List C := [iC (q + (3 * i : Nat)), iC (q + (3 * i : Nat) + 1), iC (q + (3 * i : Nat) + 1 + 1)]
def g4 (q : Int) (i : Nat) : List C := [iC (q + (4 * i : Nat)), iC (q + (4 * i : Nat) + 1), iC (q + (4 * i : Nat) + 1 + 1), iC (q + (4 * i : Nat) + 1 + 1 + 1)]
def g9 (q : Int) (i : Nat) : List C := [iC (q + (9 * i : Nat)), iC (q + (9 * i : Nat) + 1), iC (q + (9 * i : Nat) + 1 + 1), iC (q + (9 * i : Nat) + 1 + 1 + 1), iC (q + (9 * i : Nat) + 1 + 1 + 1 + 1), iC (q + (9 * i : Nat) + 1 + 1 + 1 + 1 + 1), iC (q + (9 * i : Nat) + 1 + 1 + 1 + 1 + 1 + 1), iC (q + (9 * i : Nat) + 1 + 1 + 1 + 1 + 1 + 1 + 1), iC (q + (9 * i : Nat) + 1 + 1 + 1 + 1 + 1 + 1 + 1 + 1)]
@[reducible] def mk1 (q : Int) (n : Nat) : List (List C) := (List.range n).map (g1 q)
@[reducible] def mk3 (q : Int) (n : Nat) : List (List C) := (List.range n).map (g3 q)
@[reducible] def mk4 (q : Int) (n : Nat) : List (List C) := (List.range n).map (g4 q)
@[reducible] def mk9 (q : Int) (n : Nat) : List (List C) := (List.range n).map (g9 q)
def lenS (x : Int × List Int) : Nat := 1 + x.2.length
def gR (q : Int) (K : List (List Int)) (i : Nat) : List C := [.s 1 (mk1 (q + sumN List.length (K.take i)) (K.getD i []).length)]
def gW (q : Int) (W : List (Int × List Int)) (i : Nat) : List C := [iC (q + sumN lenS (W.take i)), .s 1 (mk1 (q + sumN lenS (W.take i) + 1) (W.getD i (0, [])).2.length)]
@[reducible] def mkRows (q : Int) (K : List (List Int)) : List (List C) := (List.range K.length).map (gR q K)
@[reducible] def mkWrites (q : Int) (W : List (Int × List Int)) : List (List C) := (List.range W.length).map (gW q W)
theorem getD_len {K : List (List Int)} {k : Nat} (hk : k < K.length) : K.getD k [] = K[k] := by simp [hk]
theorem getD_lenW {K : List (Int × List Int)} {k : Nat} (hk : k < K.length) : K.getD k (0, []) = K[k] := by simp [hk]
def mkN (d : Disk) : Nat := sumN List.length d.kept + sumN lenS d.wait
structure Book where
 base : Int
 time : Int
 entries : List Entry
structure LogN where
 two : Two
 head : Head
 next : Head
 more : Bool
 book : Book
 seen : List Mark
 durable : Int
 owe : List Ack
@[reducible] def bookC (x : Book) : List C := [iC x.base, iC x.time, entries x.entries]
@[reducible] def logC (n : LogN) : List C := [rows n.two.a.kept, writes n.two.a.wait, rows n.two.b.kept, writes n.two.b.wait, iC n.head.num, iC n.head.base, iC n.head.time, marks n.head.seen, iC n.next.num, iC n.next.base, iC n.next.time, marks n.next.seen, bC n.more, iC n.book.base, iC n.book.time, entries n.book.entries, marks n.seen, iC n.durable, acks n.owe]
@[reducible] def entriesR (l : List Entry) : RC := .s 80 9 (l.map entryC)
@[reducible] def acksR (l : List Ack) : RC := .s 83 4 (l.map ackC)
@[reducible] def bookR (x : Book) : List RC := [.v (.int .i64 x.base), .v (.int .i64 x.time), entriesR x.entries]
@[reducible] def logR (n : LogN) : List RC := [rowsR n.two.a.kept, writesR n.two.a.wait, rowsR n.two.b.kept, writesR n.two.b.wait, .v (.int .i64 n.head.num), .v (.int .i64 n.head.base), .v (.int .i64 n.head.time), marksR n.head.seen, .v (.int .i64 n.next.num), .v (.int .i64 n.next.base), .v (.int .i64 n.next.time), marksR n.next.seen, .v (.bool n.more),
 .v (.int .i64 n.book.base), .v (.int .i64 n.book.time), entriesR n.book.entries, marksR n.seen, .v (.int .i64 n.durable), acksR n.owe]
def eqX {α : Type} [DecidableEq α] (l m : List α) : Bool := decide (l = m)
theorem eqX_len {α : Type} [DecidableEq α] {l m : List α} (h : (l.length : Int) ≠ m.length) : eqX l m = false := decide_eq_false fun e => h (by rw [e])
theorem eqX_at {α : Type} [DecidableEq α] {l m : List α} {k : Nat} (h1 : k < l.length) (h2 : k < m.length) (h : l[k] ≠ m[k]) : eqX l m = false := decide_eq_false fun e => h (by subst e; rfl)
theorem eqX_all {α : Type} [DecidableEq α] {l m : List α} {k : Nat} (h1 : ¬ k < l.length) (h2 : l.length = m.length) (hp : l.take k = m.take k) : eqX l m = true := decide_eq_true (take_all h1 h2 hp)
def eqD (d e : Disk) : Bool := eqX d.kept e.kept && eqX d.wait e.wait
def eqHd (a b : Head) : Bool := decide (a.num = b.num) && (decide (a.base = b.base) && (decide (a.time = b.time) && eqN Mark.nums a.seen b.seen))
def eqBk (a b : Book) : Bool := decide (a.base = b.base) && (decide (a.time = b.time) && eqN Entry.nums a.entries b.entries)
def wEq (x y : Int × List Int) : Bool := decide (x.1 = y.1) && eqL x.2 y.2
theorem wEq_no {x y : Int × List Int} (h : wEq x y = false) : x ≠ y := fun e => by subst e; simp [wEq, eqL] at h
theorem wEq_yes {x y : Int × List Int} (h : wEq x y = true) : x = y := by
 simp only [wEq, eqL, Bool.and_eq_true, decide_eq_true_eq] at h
 exact Prod.ext h.1 h.2
theorem eqL_no {x y : List Int} (h : eqL x y = false) : x ≠ y := of_decide_eq_false h
theorem eqL_yes {x y : List Int} (h : eqL x y = true) : x = y := of_decide_eq_true h
def sameL (a b : LogN) : Bool := eqD a.two.a b.two.a && (eqD a.two.b b.two.b && (eqHd a.head b.head && (eqHd a.next b.next && ((a.more == b.more) && (eqBk a.book b.book && (eqN Mark.nums a.seen b.seen && (decide (a.durable = b.durable) && eqN Ack.nums a.owe b.owe)))))))
theorem c_eqEntries (l m : List Entry) : Pure Tryz.prog 175 [one (entries l), one (entries m)] (bR (eqN Entry.nums l m)) := by
 refine pure_intro (N := 26) Tryz.func175 rfl rfl rfl rfl (fun H w => ?_)
 refine ev_lenm (t := 0) rfl (fun hL => ?_)
 refine ev_lenm (t := 1) rfl (fun hM => ?_)
 refine sq (rg (xs rfl rfl (nl (et (sq (sq (rg (xm rfl rfl (xo (q_len_map ttOk rfl rfl) rfl (xm rfl rfl (xo (q_len_map ttOk rfl rfl) rfl (xb ttOk rfl rfl (nl (et (ev_cond rfl (fun h1 => ?_) (fun h1 => ?_))))))))))))))))
 ·have d1 := of_decide_eq_true h1
  refine sq (rg (xs rfl rfl (nl (et (ev_ret (evr_then (ret_pure' ttOk rfl rfl (congrArg bR (?_ : _ = _)))))))))
  rw [eqN_len d1]
 ·have d1 := of_decide_eq_false h1
  have hlen : l.length = m.length := by omega
  refine ev_skip (et (sq (sq (rg (xm rfl rfl (xo (q_len_map ttOk rfl rfl) rfl (xm rfl rfl (nl (et (ev_blk (ev_loop (fun k : Nat => (⟨[(13, iV k), (12, iV l.length), (0, cV (entries l)), (1, cV (entries m))], [], [], []⟩ : St)) (fun k => k ≤ l.length ∧ (l.take k).map Entry.nums = (m.take k).map Entry.nums) (fun k => l.length - k) 0 [] (⟨by simp, by simp⟩) lei ?_)))))))))))
  intro k hp
  obtain ⟨p0, p1⟩ := hp
  show Ev _ _ _ _ (⟨[(13, iV k), (12, iV l.length), (0, cV (entries l)), (1, cV (entries m))], [], [], []⟩ : St)
  refine sq (rg (xb ttOk rfl rfl (nl (et (sq (ev_cond rfl (fun h2 => ?_) (fun h2 => ?_)))))))
  ·have d2 := of_decide_eq_true h2
   refine ev_skip (et (sq (ev_blk (sq (rg (xm rfl rfl (xs rfl rfl (nl (et (sq (ev_drawq [] mo (rk0 0 rfl (q_move rfl) rfl (rk0 1 rfl (q_move rfl) rfl (rk0 2 rfl (q_ix_map ttOk rfl rfl rfl rfl om) rfl (rk0 3 rfl (q_load ttOk rfl) rfl (rk0 4 rfl (q_move rfl) rfl (rk0 5 rfl (q_move rfl) rfl (rk0 6 rfl (q_ix_map ttOk rfl rfl rfl rfl om) rfl (rk0 7 rfl (q_load ttOk rfl) rfl ?_)))))))))))))))))))
   first | refine rk0 8 rfl (q_eqT (n := 9) kr rfl rfl rfl rfl rfl rfl rfl) rfl ?_ | refine rk0 8 rfl (q_bin ttOk rfl) rfl ?_
   refine rdk_endq kr (et (ev_cond rfl (fun h3 => ?_) (fun h3 => ?_)))
   ·have d3 := of_decide_eq_true h3
    refine sq (rg (xs rfl rfl (nl (et (ev_ret (evr_blk (evr_then (evr_then (evr_blk (evr_then (ret_pure' ttOk rfl rfl (congrArg bR (?_ : _ = _)))))))))))))
    rw [eqN_at (k := k) om om d3]
   ·have d3 := of_decide_eq_false h3
    refine ev_skip (eb (et (rg (xa rfl rfl rfl om rfl (xm rfl rfl (nl (eve_round (k + 1) [] ?hp lei)))))))
    case hp => exact ⟨⟨by omega, takeN om om p1 (Decidable.not_not.1 d3)⟩, by omega⟩
  ·have d2 := of_decide_eq_false h2
   refine ev_exit (evx_then (evx_then (evx_hit (et (sq (rg (xs rfl rfl (nl (et (ev_ret (ret_pure' ttOk rfl rfl (congrArg bR (?_ : _ = _)))))))))))))
   exact (takeN_all om hlen p1).symm
theorem c_SameBook' (x y : Book) : Pure Tryz.prog 89 [many (bookC x), many (bookC y)] (bR (eqBk x y)) := by
 refine pure_intro (N := 24) Tryz.func89 rfl rfl rfl rfl (fun H w => ?_)
 refine sq (rg (evl_e (e_box rfl rfl rfl rfl) (evl_e (e_box rfl rfl rfl rfl) (xs rfl rfl (nl (et (sq (rg (xf ttOk rfl rfl (xl ttOk rfl rfl (xf ttOk rfl rfl (xl ttOk rfl rfl (xb ttOk rfl rfl (xm rfl rfl (evl_part rfl rfl (fun h1 => ?_) (fun h1 => ?_))))))))))))))))
 ·refine go h1 rfl rfl (q_fieldAddr ttOk rfl) rfl (go h1 rfl rfl (q_load ttOk rfl) rfl (go h1 rfl rfl (q_fieldAddr ttOk rfl) rfl (go h1 rfl rfl (q_load ttOk rfl) rfl (go h1 rfl rfl (q_bin ttOk rfl) rfl (xo (q_pick_t rfl h1 rfl) rfl (xm rfl rfl (evl_part rfl rfl (fun h2 => ?_) (fun h2 => ?_))))))))
  ·refine go h2 rfl rfl (q_fieldAddr ttOk rfl) rfl (go h2 rfl rfl (q_load ttOk rfl) rfl (go h2 rfl rfl (q_fieldAddr ttOk rfl) rfl (go h2 rfl rfl (q_load ttOk rfl) rfl (evl_callg rfl rfl h2 (nm := 22) (cf rfl) (c_eqEntries _ _) (rs_of rfl) rfl rfl rfl (xo (q_pick_t rfl h2 rfl) rfl (xs rfl rfl (nl (et (ev_ret (ret_pure' ttOk rfl rfl (congrArg bR (?_ : _ = _))))))))))))
   simp_all [eqBk]
  ·refine gn h2 rfl rfl rfl (gn h2 rfl rfl rfl (gn h2 rfl rfl rfl (gn h2 rfl rfl rfl (gn h2 rfl rfl rfl (xo (q_pick_f rfl h2 rfl) rfl (xs rfl rfl (nl (et (ev_ret (ret_pure' ttOk rfl rfl (congrArg bR (?_ : _ = _))))))))))))
   simp_all [eqBk]
 ·refine gn h1 rfl rfl rfl (gn h1 rfl rfl rfl (gn h1 rfl rfl rfl (gn h1 rfl rfl rfl (gn h1 rfl rfl rfl (xo (q_pick_f rfl h1 rfl) rfl (xm rfl rfl (gn rfl rfl rfl rfl (gn rfl rfl rfl rfl (gn rfl rfl rfl rfl (gn rfl rfl rfl rfl (gn rfl rfl rfl rfl (xo (q_pick_f rfl rfl rfl) rfl (xs rfl rfl (nl (et (ev_ret (ret_pure' ttOk rfl rfl (congrArg bR (?_ : _ = _)))))))))))))))))))
  simp_all [eqBk]
theorem c_l12SameHead (x y : Head) : Pure Tryz.prog 102 [many (headC x), many (headC y)] (bR (eqHd x y)) := by
 refine pure_intro (N := 31) Tryz.func102 rfl rfl rfl rfl (fun H w => ?_)
 refine sq (rg (evl_e (e_box rfl rfl rfl rfl) (evl_e (e_box rfl rfl rfl rfl) (xs rfl rfl (nl (et (sq (rg (xf ttOk rfl rfl (xl ttOk rfl rfl (xf ttOk rfl rfl (xl ttOk rfl rfl (xb ttOk rfl rfl (xm rfl rfl (evl_part rfl rfl (fun h1 => ?_) (fun h1 => ?_))))))))))))))))
 ·refine go h1 rfl rfl (q_fieldAddr ttOk rfl) rfl (go h1 rfl rfl (q_load ttOk rfl) rfl (go h1 rfl rfl (q_fieldAddr ttOk rfl) rfl (go h1 rfl rfl (q_load ttOk rfl) rfl (go h1 rfl rfl (q_bin ttOk rfl) rfl (xo (q_pick_t rfl h1 rfl) rfl (xm rfl rfl (evl_part rfl rfl (fun h2 => ?_) (fun h2 => ?_))))))))
  ·refine go h2 rfl rfl (q_fieldAddr ttOk rfl) rfl (go h2 rfl rfl (q_load ttOk rfl) rfl (go h2 rfl rfl (q_fieldAddr ttOk rfl) rfl (go h2 rfl rfl (q_load ttOk rfl) rfl (go h2 rfl rfl (q_bin ttOk rfl) rfl (xo (q_pick_t rfl h2 rfl) rfl (xm rfl rfl (evl_part rfl rfl (fun h3 => ?_) (fun h3 => ?_))))))))
   ·refine go h3 rfl rfl (q_fieldAddr ttOk rfl) rfl (go h3 rfl rfl (q_load ttOk rfl) rfl (go h3 rfl rfl (q_fieldAddr ttOk rfl) rfl (go h3 rfl rfl (q_load ttOk rfl) rfl (evl_callg rfl rfl h3 (nm := 29) (cf rfl) (c_SameSeen _ _) (rs_of rfl) rfl rfl rfl (xo (q_pick_t rfl h3 rfl) rfl (xs rfl rfl (nl (et (ev_ret (ret_pure' ttOk rfl rfl (congrArg bR (?_ : _ = _))))))))))))
    simp_all [eqHd]
   ·refine gn h3 rfl rfl rfl (gn h3 rfl rfl rfl (gn h3 rfl rfl rfl (gn h3 rfl rfl rfl (gn h3 rfl rfl rfl (xo (q_pick_f rfl h3 rfl) rfl (xs rfl rfl (nl (et (ev_ret (ret_pure' ttOk rfl rfl (congrArg bR (?_ : _ = _))))))))))))
    simp_all [eqHd]
  ·refine gn h2 rfl rfl rfl (gn h2 rfl rfl rfl (gn h2 rfl rfl rfl (gn h2 rfl rfl rfl (gn h2 rfl rfl rfl (xo (q_pick_f rfl h2 rfl) rfl (xm rfl rfl (gn rfl rfl rfl rfl (gn rfl rfl rfl rfl (gn rfl rfl rfl rfl (gn rfl rfl rfl rfl (gn rfl rfl rfl rfl (xo (q_pick_f rfl rfl rfl) rfl (xs rfl rfl (nl (et (ev_ret (ret_pure' ttOk rfl rfl (congrArg bR (?_ : _ = _)))))))))))))))))))
   simp_all [eqHd]
 ·refine gn h1 rfl rfl rfl (gn h1 rfl rfl rfl (gn h1 rfl rfl rfl (gn h1 rfl rfl rfl (gn h1 rfl rfl rfl (xo (q_pick_f rfl h1 rfl) rfl (xm rfl rfl (gn rfl rfl rfl rfl (gn rfl rfl rfl rfl (gn rfl rfl rfl rfl (gn rfl rfl rfl rfl (gn rfl rfl rfl rfl (xo (q_pick_f rfl rfl rfl) rfl (xm rfl rfl (gn rfl rfl rfl rfl (gn rfl rfl rfl rfl (gn rfl rfl rfl rfl (gn rfl rfl rfl rfl (gn rfl rfl rfl rfl (xo (q_pick_f rfl rfl rfl) rfl (xs rfl rfl (nl (et (ev_ret (ret_pure' ttOk rfl rfl (congrArg bR (?_ : _ = _))))))))))))))))))))))))))
  simp_all [eqHd]
theorem c_sameHead (x y : Head) : Pure Tryz.prog 88 [many (headC x), many (headC y)] (bR (eqHd x y)) := by
 refine pure_intro (N := 31) Tryz.func88 rfl rfl rfl rfl (fun H w => ?_)
 refine sq (rg (evl_e (e_box rfl rfl rfl rfl) (evl_e (e_box rfl rfl rfl rfl) (xs rfl rfl (nl (et (sq (rg (xf ttOk rfl rfl (xl ttOk rfl rfl (xf ttOk rfl rfl (xl ttOk rfl rfl (xb ttOk rfl rfl (xm rfl rfl (evl_part rfl rfl (fun h1 => ?_) (fun h1 => ?_))))))))))))))))
 ·refine go h1 rfl rfl (q_fieldAddr ttOk rfl) rfl (go h1 rfl rfl (q_load ttOk rfl) rfl (go h1 rfl rfl (q_fieldAddr ttOk rfl) rfl (go h1 rfl rfl (q_load ttOk rfl) rfl (go h1 rfl rfl (q_bin ttOk rfl) rfl (xo (q_pick_t rfl h1 rfl) rfl (xm rfl rfl (evl_part rfl rfl (fun h2 => ?_) (fun h2 => ?_))))))))
  ·refine go h2 rfl rfl (q_fieldAddr ttOk rfl) rfl (go h2 rfl rfl (q_load ttOk rfl) rfl (go h2 rfl rfl (q_fieldAddr ttOk rfl) rfl (go h2 rfl rfl (q_load ttOk rfl) rfl (go h2 rfl rfl (q_bin ttOk rfl) rfl (xo (q_pick_t rfl h2 rfl) rfl (xm rfl rfl (evl_part rfl rfl (fun h3 => ?_) (fun h3 => ?_))))))))
   ·refine go h3 rfl rfl (q_fieldAddr ttOk rfl) rfl (go h3 rfl rfl (q_load ttOk rfl) rfl (go h3 rfl rfl (q_fieldAddr ttOk rfl) rfl (go h3 rfl rfl (q_load ttOk rfl) rfl (evl_callg rfl rfl h3 (nm := 29) (cf rfl) (c_SameSeen' _ _) (rs_of rfl) rfl rfl rfl (xo (q_pick_t rfl h3 rfl) rfl (xs rfl rfl (nl (et (ev_ret (ret_pure' ttOk rfl rfl (congrArg bR (?_ : _ = _))))))))))))
    simp_all [eqHd]
   ·refine gn h3 rfl rfl rfl (gn h3 rfl rfl rfl (gn h3 rfl rfl rfl (gn h3 rfl rfl rfl (gn h3 rfl rfl rfl (xo (q_pick_f rfl h3 rfl) rfl (xs rfl rfl (nl (et (ev_ret (ret_pure' ttOk rfl rfl (congrArg bR (?_ : _ = _))))))))))))
    simp_all [eqHd]
  ·refine gn h2 rfl rfl rfl (gn h2 rfl rfl rfl (gn h2 rfl rfl rfl (gn h2 rfl rfl rfl (gn h2 rfl rfl rfl (xo (q_pick_f rfl h2 rfl) rfl (xm rfl rfl (gn rfl rfl rfl rfl (gn rfl rfl rfl rfl (gn rfl rfl rfl rfl (gn rfl rfl rfl rfl (gn rfl rfl rfl rfl (xo (q_pick_f rfl rfl rfl) rfl (xs rfl rfl (nl (et (ev_ret (ret_pure' ttOk rfl rfl (congrArg bR (?_ : _ = _)))))))))))))))))))
   simp_all [eqHd]
 ·refine gn h1 rfl rfl rfl (gn h1 rfl rfl rfl (gn h1 rfl rfl rfl (gn h1 rfl rfl rfl (gn h1 rfl rfl rfl (xo (q_pick_f rfl h1 rfl) rfl (xm rfl rfl (gn rfl rfl rfl rfl (gn rfl rfl rfl rfl (gn rfl rfl rfl rfl (gn rfl rfl rfl rfl (gn rfl rfl rfl rfl (xo (q_pick_f rfl rfl rfl) rfl (xm rfl rfl (gn rfl rfl rfl rfl (gn rfl rfl rfl rfl (gn rfl rfl rfl rfl (gn rfl rfl rfl rfl (gn rfl rfl rfl rfl (xo (q_pick_f rfl rfl rfl) rfl (xs rfl rfl (nl (et (ev_ret (ret_pure' ttOk rfl rfl (congrArg bR (?_ : _ = _))))))))))))))))))))))))))
  simp_all [eqHd]
theorem c_sameWrite (x y : Int × List Int) : Pure Tryz.prog 174 [many [iC x.1, ints x.2], many [iC y.1, ints y.2]] (bR (wEq x y)) := by
 refine pure_intro (N := 17) Tryz.func174 rfl rfl rfl rfl (fun H w => ?_)
 refine sq (rg (evl_e (e_box rfl rfl rfl rfl) (evl_e (e_box rfl rfl rfl rfl) (xs rfl rfl (nl (et (sq (rg (xf ttOk rfl rfl (xl ttOk rfl rfl (xf ttOk rfl rfl (xl ttOk rfl rfl (xb ttOk rfl rfl (xm rfl rfl (evl_part rfl rfl (fun h1 => ?_) (fun h1 => ?_))))))))))))))))
 ·refine go h1 rfl rfl (q_fieldAddr ttOk rfl) rfl (go h1 rfl rfl (q_load ttOk rfl) rfl (go h1 rfl rfl (q_fieldAddr ttOk rfl) rfl (go h1 rfl rfl (q_load ttOk rfl) rfl (evl_callg rfl rfl h1 (nm := 15) (cf rfl) (c_SameRow' _ _) (rs_of rfl) rfl rfl rfl (xo (q_pick_t rfl h1 rfl) rfl (xs rfl rfl (nl (et (ev_ret (ret_pure' ttOk rfl rfl (congrArg bR (?_ : _ = _))))))))))))
  simp_all [wEq]
 ·refine gn h1 rfl rfl rfl (gn h1 rfl rfl rfl (gn h1 rfl rfl rfl (gn h1 rfl rfl rfl (gn h1 rfl rfl rfl (xo (q_pick_f rfl h1 rfl) rfl (xs rfl rfl (nl (et (ev_ret (ret_pure' ttOk rfl rfl (congrArg bR (?_ : _ = _))))))))))))
  simp_all [wEq]
theorem c_eqRowsF (l m : List (List Int)) : Pure Tryz.prog 171 [one (rows l), one (rows m), one (.v (.func (.func 172) #[] #[]))] (bR (eqX l m)) := by
 refine pure_intro (N := 32) Tryz.func171 rfl rfl rfl rfl (fun H w => ?_)
 refine ev_lenm (t := 0) rfl (fun hL => ?_)
 refine ev_lenm (t := 1) rfl (fun hM => ?_)
 refine sq (rg (xs rfl rfl (nl (et (sq (sq (rg (xm rfl rfl (xo (q_len_map ttOk rfl rfl) rfl (xm rfl rfl (xo (q_len_map ttOk rfl rfl) rfl (xb ttOk rfl rfl (nl (et (ev_cond rfl (fun h1 => ?_) (fun h1 => ?_))))))))))))))))
 ·have d1 := of_decide_eq_true h1
  refine sq (rg (xs rfl rfl (nl (et (ev_ret (evr_then (ret_pure' ttOk rfl rfl (congrArg bR (?_ : _ = _)))))))))
  rw [eqX_len d1]
 ·have d1 := of_decide_eq_false h1
  have hlen : l.length = m.length := by omega
  refine ev_skip (et (sq (sq (rg (xm rfl rfl (xo (q_len_map ttOk rfl rfl) rfl (xm rfl rfl (nl (et (ev_blk (ev_loop (fun k : Nat => (⟨[(17, iV k), (16, iV l.length), (15, cV (rows l)), (1, cV (rows m)), (2, cV (.v (.func (.func 172) #[] #[])))], [], [], []⟩ : St)) (fun k => k ≤ l.length ∧ l.take k = m.take k) (fun k => l.length - k) 0 [] (⟨by simp, by simp⟩) lei ?_)))))))))))
  intro k hp
  obtain ⟨p0, p1⟩ := hp
  show Ev _ _ _ _ (⟨[(17, iV k), (16, iV l.length), (15, cV (rows l)), (1, cV (rows m)), (2, cV (.v (.func (.func 172) #[] #[])))], [], [], []⟩ : St)
  refine sq (rg (xb ttOk rfl rfl (nl (et (sq (ev_cond rfl (fun h2 => ?_) (fun h2 => ?_)))))))
  ·have d2 := of_decide_eq_true h2
   refine ev_skip (et (sq (ev_blk (sq (rg (xm rfl rfl (xo (q_ix_map ttOk rfl rfl rfl rfl om) rfl (xl ttOk rfl rfl (xs rfl rfl (xs rfl rfl (nl (et (sq (rg (xm rfl rfl (xm rfl rfl (xo (q_ix_map ttOk rfl rfl rfl rfl om) rfl (xl ttOk rfl rfl (xs rfl rfl (nl (et (sq (rg (xm rfl rfl (xm rfl rfl (xm rfl rfl (evl_callt (nm := 29) rfl (cf rfl) (c_SameRow' _ _) (rs_of rfl) rfl rfl rfl (xo (q_not rfl) rfl (nl (et (ev_cond_n rfl (fun h3 => ?_) (fun h3 => ?_))))))))))))))))))))))))))))))))
   ·refine sq (rg (xs rfl rfl (nl (et (ev_ret (evr_blk (evr_then (evr_then (evr_blk (evr_then (ret_pure' ttOk rfl rfl (congrArg bR (?_ : _ = _)))))))))))))
    rw [eqX_at (k := k) om om (eqL_no h3)]
   ·refine ev_skip (eb (et (rg (xa rfl rfl rfl om rfl (xm rfl rfl (nl (eve_round (k + 1) [] ?hp lei)))))))
    case hp => exact ⟨⟨by omega, take_eq om om p1 (eqL_yes h3)⟩, by omega⟩
  ·have d2 := of_decide_eq_false h2
   refine ev_exit (evx_then (evx_then (evx_hit (et (sq (rg (xs rfl rfl (nl (et (ev_ret (ret_pure' ttOk rfl rfl (congrArg bR (?_ : _ = _)))))))))))))
   exact (eqX_all om hlen p1).symm
theorem c_eqWritesF (l m : List (Int × List Int)) : Pure Tryz.prog 173 [one (writes l), one (writes m), one (.v (.func (.func 174) #[] #[]))] (bR (eqX l m)) := by
 refine pure_intro (N := 32) Tryz.func173 rfl rfl rfl rfl (fun H w => ?_)
 refine ev_lenm (t := 0) rfl (fun hL => ?_)
 refine ev_lenm (t := 1) rfl (fun hM => ?_)
 refine sq (rg (xs rfl rfl (nl (et (sq (sq (rg (xm rfl rfl (xo (q_len_map ttOk rfl rfl) rfl (xm rfl rfl (xo (q_len_map ttOk rfl rfl) rfl (xb ttOk rfl rfl (nl (et (ev_cond rfl (fun h1 => ?_) (fun h1 => ?_))))))))))))))))
 ·have d1 := of_decide_eq_true h1
  refine sq (rg (xs rfl rfl (nl (et (ev_ret (evr_then (ret_pure' ttOk rfl rfl (congrArg bR (?_ : _ = _)))))))))
  rw [eqX_len d1]
 ·have d1 := of_decide_eq_false h1
  have hlen : l.length = m.length := by omega
  refine ev_skip (et (sq (sq (rg (xm rfl rfl (xo (q_len_map ttOk rfl rfl) rfl (xm rfl rfl (nl (et (ev_blk (ev_loop (fun k : Nat => (⟨[(17, iV k), (16, iV l.length), (15, cV (writes l)), (1, cV (writes m)), (2, cV (.v (.func (.func 174) #[] #[])))], [], [], []⟩ : St)) (fun k => k ≤ l.length ∧ l.take k = m.take k) (fun k => l.length - k) 0 [] (⟨by simp, by simp⟩) lei ?_)))))))))))
  intro k hp
  obtain ⟨p0, p1⟩ := hp
  show Ev _ _ _ _ (⟨[(17, iV k), (16, iV l.length), (15, cV (writes l)), (1, cV (writes m)), (2, cV (.v (.func (.func 174) #[] #[])))], [], [], []⟩ : St)
  refine sq (rg (xb ttOk rfl rfl (nl (et (sq (ev_cond rfl (fun h2 => ?_) (fun h2 => ?_)))))))
  ·have d2 := of_decide_eq_true h2
   refine ev_skip (et (sq (ev_blk (sq (rg (xm rfl rfl (xo (q_ix_map ttOk rfl rfl rfl rfl om) rfl (xl ttOk rfl rfl (evl_e (e_alloc ttOk rfl rfl rfl rfl) (xs rfl rfl (xst ttOk rfl rfl (nl (et (sq (rg (xm rfl rfl (xm rfl rfl (xo (q_ix_map ttOk rfl rfl rfl rfl om) rfl (xl ttOk rfl rfl (evl_e (e_alloc ttOk rfl rfl rfl rfl) (xst ttOk rfl rfl (nl (et (sq (rg (xm rfl rfl (xl ttOk rfl rfl (xl ttOk rfl rfl (evl_callt (nm := 29) rfl (cf rfl) (c_sameWrite (l[k]'om) (m[k]'om)) (rs_of rfl) rfl rfl rfl (xo (q_not rfl) rfl (nl (et (ev_cond_n rfl (fun h3 => ?_) (fun h3 => ?_))))))))))))))))))))))))))))))))))
   ·refine sq (rg (xs rfl rfl (nl (et (ev_ret (evr_blk (evr_then (evr_then (evr_blk (evr_then (ret_pure' ttOk rfl rfl (congrArg bR (?_ : _ = _)))))))))))))
    rw [eqX_at (k := k) om om (wEq_no h3)]
   ·refine ev_skip (eb (et (rg (xa rfl rfl rfl om rfl (xm rfl rfl (nl (eve_round (k + 1) [] ?hp lei)))))))
    case hp => exact ⟨⟨by omega, take_eq om om p1 (wEq_yes h3)⟩, by omega⟩
  ·have d2 := of_decide_eq_false h2
   refine ev_exit (evx_then (evx_then (evx_hit (et (sq (rg (xs rfl rfl (nl (et (ev_ret (ret_pure' ttOk rfl rfl (congrArg bR (?_ : _ = _)))))))))))))
   exact (eqX_all om hlen p1).symm
theorem c_sameDisk (d e : Disk) : Pure Tryz.prog 87 [many (diskC d), many (diskC e)] (bR (eqD d e)) := by
 refine pure_intro (N := 17) Tryz.func87 rfl rfl rfl rfl (fun H w => ?_)
 refine sq (rg (evl_e (e_box rfl rfl rfl rfl) (evl_e (e_box rfl rfl rfl rfl) (xs rfl rfl (nl (et (sq (rg (xf ttOk rfl rfl (xl ttOk rfl rfl (xf ttOk rfl rfl (xl ttOk rfl rfl (evl_call (nm := 9) (cf rfl) (c_eqRowsF _ _) (rs_of rfl) rfl rfl rfl (xm rfl rfl (evl_part rfl rfl (fun h1 => ?_) (fun h1 => ?_))))))))))))))))
 ·refine go h1 rfl rfl (q_fieldAddr ttOk rfl) rfl (go h1 rfl rfl (q_load ttOk rfl) rfl (go h1 rfl rfl (q_fieldAddr ttOk rfl) rfl (go h1 rfl rfl (q_load ttOk rfl) rfl (evl_callg rfl rfl h1 (nm := 15) (cf rfl) (c_eqWritesF _ _) (rs_of rfl) rfl rfl rfl (xo (q_pick_t rfl h1 rfl) rfl (xs rfl rfl (nl (et (ev_ret (ret_pure' ttOk rfl rfl (congrArg bR (?_ : _ = _))))))))))))
  simp_all [eqD]
 ·refine gn h1 rfl rfl rfl (gn h1 rfl rfl rfl (gn h1 rfl rfl rfl (gn h1 rfl rfl rfl (gn h1 rfl rfl rfl (xo (q_pick_f rfl h1 rfl) rfl (xs rfl rfl (nl (et (ev_ret (ret_pure' ttOk rfl rfl (congrArg bR (?_ : _ = _))))))))))))
  simp_all [eqD]
theorem c_SameLog' (x y : LogN) : Pure Tryz.prog 30 [many (logC x), many (logC y)] (bR (sameL x y)) := by
 refine pure_intro (N := 70) Tryz.func30 rfl rfl rfl rfl (fun H w => ?_)
 refine sq (rg (evl_e (e_box rfl rfl rfl rfl) (evl_e (e_box rfl rfl rfl rfl) (xs rfl rfl (nl (et (sq (rg (xf ttOk rfl rfl (xf ttOk rfl rfl (xl ttOk rfl rfl (xf ttOk rfl rfl (xf ttOk rfl rfl (xl ttOk rfl rfl ?_))))))))))))))
 first | refine evl_call (nm := 11) (cf rfl) (c_sameDisk x.two.a y.two.a) (rs_of rfl) rfl rfl rfl ?_ | refine evl_call (nm := 11) (cf rfl) (c_sameDisk x.two.b y.two.b) (rs_of rfl) rfl rfl rfl ?_
 refine xm rfl rfl (evl_part rfl rfl (fun h1 => ?_) (fun h1 => ?_))
 ·refine go h1 rfl rfl (q_fieldAddr ttOk rfl) rfl (go h1 rfl rfl (q_fieldAddr ttOk rfl) rfl (go h1 rfl rfl (q_load ttOk rfl) rfl (go h1 rfl rfl (q_fieldAddr ttOk rfl) rfl (go h1 rfl rfl (q_fieldAddr ttOk rfl) rfl (go h1 rfl rfl (q_load ttOk rfl) rfl ?_)))))
  first | refine evl_callg rfl rfl h1 (nm := 19) (cf rfl) (c_sameDisk x.two.a y.two.a) (rs_of rfl) rfl rfl rfl ?_ | refine evl_callg rfl rfl h1 (nm := 19) (cf rfl) (c_sameDisk x.two.b y.two.b) (rs_of rfl) rfl rfl rfl ?_
  refine xo (q_pick_t rfl h1 rfl) rfl (xm rfl rfl (evl_part rfl rfl (fun h2 => ?_) (fun h2 => ?_)))
  ·refine go h2 rfl rfl (q_fieldAddr ttOk rfl) rfl (go h2 rfl rfl (q_load ttOk rfl) rfl (go h2 rfl rfl (q_fieldAddr ttOk rfl) rfl (go h2 rfl rfl (q_load ttOk rfl) rfl (evl_callg rfl rfl h2 (nm := 26) (cf rfl) (c_sameHead ⟨_, _, _, _⟩ ⟨_, _, _, _⟩) (rs_of rfl) rfl rfl rfl (xo (q_pick_t rfl h2 rfl) rfl (xm rfl rfl (evl_part rfl rfl (fun h3 => ?_) (fun h3 => ?_))))))))
   ·refine go h3 rfl rfl (q_fieldAddr ttOk rfl) rfl (go h3 rfl rfl (q_load ttOk rfl) rfl (go h3 rfl rfl (q_fieldAddr ttOk rfl) rfl (go h3 rfl rfl (q_load ttOk rfl) rfl (evl_callg rfl rfl h3 (nm := 33) (cf rfl) (c_sameHead ⟨_, _, _, _⟩ ⟨_, _, _, _⟩) (rs_of rfl) rfl rfl rfl (xo (q_pick_t rfl h3 rfl) rfl (xm rfl rfl (evl_part rfl rfl (fun h4 => ?_) (fun h4 => ?_))))))))
    ·refine go h4 rfl rfl (q_fieldAddr ttOk rfl) rfl (go h4 rfl rfl (q_load ttOk rfl) rfl (go h4 rfl rfl (q_fieldAddr ttOk rfl) rfl (go h4 rfl rfl (q_load ttOk rfl) rfl (go h4 rfl rfl (q_bin ttOk rfl) rfl (xo (q_pick_t rfl h4 rfl) rfl (xm rfl rfl (evl_part rfl rfl (fun h5 => ?_) (fun h5 => ?_))))))))
     ·refine go h5 rfl rfl (q_fieldAddr ttOk rfl) rfl (go h5 rfl rfl (q_load ttOk rfl) rfl (go h5 rfl rfl (q_fieldAddr ttOk rfl) rfl (go h5 rfl rfl (q_load ttOk rfl) rfl (evl_callg rfl rfl h5 (nm := 47) (cf rfl) (c_SameBook' ⟨_, _, _⟩ ⟨_, _, _⟩) (rs_of rfl) rfl rfl rfl (xo (q_pick_t rfl h5 rfl) rfl (xm rfl rfl (evl_part rfl rfl (fun h6 => ?_) (fun h6 => ?_))))))))
      ·refine go h6 rfl rfl (q_fieldAddr ttOk rfl) rfl (go h6 rfl rfl (q_load ttOk rfl) rfl (go h6 rfl rfl (q_fieldAddr ttOk rfl) rfl (go h6 rfl rfl (q_load ttOk rfl) rfl (evl_callg rfl rfl h6 (nm := 54) (cf rfl) (c_SameSeen' _ _) (rs_of rfl) rfl rfl rfl (xo (q_pick_t rfl h6 rfl) rfl (xm rfl rfl (evl_part rfl rfl (fun h7 => ?_) (fun h7 => ?_))))))))
       ·refine go h7 rfl rfl (q_fieldAddr ttOk rfl) rfl (go h7 rfl rfl (q_load ttOk rfl) rfl (go h7 rfl rfl (q_fieldAddr ttOk rfl) rfl (go h7 rfl rfl (q_load ttOk rfl) rfl (go h7 rfl rfl (q_bin ttOk rfl) rfl (xo (q_pick_t rfl h7 rfl) rfl (xm rfl rfl (evl_part rfl rfl (fun h8 => ?_) (fun h8 => ?_))))))))
        ·refine go h8 rfl rfl (q_fieldAddr ttOk rfl) rfl (go h8 rfl rfl (q_load ttOk rfl) rfl (go h8 rfl rfl (q_fieldAddr ttOk rfl) rfl (go h8 rfl rfl (q_load ttOk rfl) rfl (evl_callg rfl rfl h8 (nm := 68) (cf rfl) (c_eqAcks _ _) (rs_of rfl) rfl rfl rfl (xo (q_pick_t rfl h8 rfl) rfl (xs rfl rfl (nl (et (ev_ret (ret_pure' ttOk rfl rfl (congrArg bR (?_ : _ = _))))))))))))
         simp_all [sameL]
        ·refine gn h8 rfl rfl rfl (gn h8 rfl rfl rfl (gn h8 rfl rfl rfl (gn h8 rfl rfl rfl (gn h8 rfl rfl rfl (xo (q_pick_f rfl h8 rfl) rfl (xs rfl rfl (nl (et (ev_ret (ret_pure' ttOk rfl rfl (congrArg bR (?_ : _ = _))))))))))))
         simp_all [sameL]
       ·refine gn h7 rfl rfl rfl (gn h7 rfl rfl rfl (gn h7 rfl rfl rfl (gn h7 rfl rfl rfl (gn h7 rfl rfl rfl (xo (q_pick_f rfl h7 rfl) rfl (xm rfl rfl (gn rfl rfl rfl rfl (gn rfl rfl rfl rfl (gn rfl rfl rfl rfl (gn rfl rfl rfl rfl (gn rfl rfl rfl rfl (xo (q_pick_f rfl rfl rfl) rfl (xs rfl rfl (nl (et (ev_ret (ret_pure' ttOk rfl rfl (congrArg bR (?_ : _ = _)))))))))))))))))))
        simp_all [sameL]
      ·refine gn h6 rfl rfl rfl (gn h6 rfl rfl rfl (gn h6 rfl rfl rfl (gn h6 rfl rfl rfl (gn h6 rfl rfl rfl (xo (q_pick_f rfl h6 rfl) rfl (xm rfl rfl (gn rfl rfl rfl rfl (gn rfl rfl rfl rfl (gn rfl rfl rfl rfl (gn rfl rfl rfl rfl (gn rfl rfl rfl rfl (xo (q_pick_f rfl rfl rfl) rfl (xm rfl rfl (gn rfl rfl rfl rfl (gn rfl rfl rfl rfl (gn rfl rfl rfl rfl (gn rfl rfl rfl rfl (gn rfl rfl rfl rfl (xo (q_pick_f rfl rfl rfl) rfl (xs rfl rfl (nl (et (ev_ret (ret_pure' ttOk rfl rfl (congrArg bR (?_ : _ = _))))))))))))))))))))))))))
       simp_all [sameL]
     ·refine gn h5 rfl rfl rfl (gn h5 rfl rfl rfl (gn h5 rfl rfl rfl (gn h5 rfl rfl rfl (gn h5 rfl rfl rfl (xo (q_pick_f rfl h5 rfl) rfl (xm rfl rfl (gn rfl rfl rfl rfl (gn rfl rfl rfl rfl (gn rfl rfl rfl rfl (gn rfl rfl rfl rfl (gn rfl rfl rfl rfl (xo (q_pick_f rfl rfl rfl) rfl (xm rfl rfl (gn rfl rfl rfl rfl (gn rfl rfl rfl rfl (gn rfl rfl rfl rfl (gn rfl rfl rfl rfl (gn rfl rfl rfl rfl (xo (q_pick_f rfl rfl rfl) rfl (xm rfl rfl (gn rfl rfl rfl rfl (gn rfl rfl rfl rfl (gn rfl rfl rfl rfl (gn rfl rfl rfl rfl (gn rfl rfl rfl rfl (xo (q_pick_f rfl rfl rfl) rfl (xs rfl rfl (nl (et (ev_ret (ret_pure' ttOk rfl rfl (congrArg bR (?_ : _ = _)))))))))))))))))))))))))))))))))
      simp_all [sameL]
    ·refine gn h4 rfl rfl rfl (gn h4 rfl rfl rfl (gn h4 rfl rfl rfl (gn h4 rfl rfl rfl (gn h4 rfl rfl rfl (xo (q_pick_f rfl h4 rfl) rfl (xm rfl rfl (gn rfl rfl rfl rfl (gn rfl rfl rfl rfl (gn rfl rfl rfl rfl (gn rfl rfl rfl rfl (gn rfl rfl rfl rfl (xo (q_pick_f rfl rfl rfl) rfl (xm rfl rfl (gn rfl rfl rfl rfl (gn rfl rfl rfl rfl (gn rfl rfl rfl rfl (gn rfl rfl rfl rfl (gn rfl rfl rfl rfl (xo (q_pick_f rfl rfl rfl) rfl (xm rfl rfl (gn rfl rfl rfl rfl (gn rfl rfl rfl rfl (gn rfl rfl rfl rfl (gn rfl rfl rfl rfl (gn rfl rfl rfl rfl (xo (q_pick_f rfl rfl rfl) rfl (xm rfl rfl (gn rfl rfl rfl rfl (gn rfl rfl rfl rfl (gn rfl rfl rfl rfl (gn rfl rfl rfl rfl (gn rfl rfl rfl rfl (xo (q_pick_f rfl rfl rfl) rfl (xs rfl rfl (nl (et (ev_ret (ret_pure' ttOk rfl rfl (congrArg bR (?_ : _ = _))))))))))))))))))))))))))))))))))))))))
     simp_all [sameL]
   ·refine gn h3 rfl rfl rfl (gn h3 rfl rfl rfl (gn h3 rfl rfl rfl (gn h3 rfl rfl rfl (gn h3 rfl rfl rfl (xo (q_pick_f rfl h3 rfl) rfl (xm rfl rfl (gn rfl rfl rfl rfl (gn rfl rfl rfl rfl (gn rfl rfl rfl rfl (gn rfl rfl rfl rfl (gn rfl rfl rfl rfl (xo (q_pick_f rfl rfl rfl) rfl (xm rfl rfl (gn rfl rfl rfl rfl (gn rfl rfl rfl rfl (gn rfl rfl rfl rfl (gn rfl rfl rfl rfl (gn rfl rfl rfl rfl (xo (q_pick_f rfl rfl rfl) rfl (xm rfl rfl (gn rfl rfl rfl rfl (gn rfl rfl rfl rfl (gn rfl rfl rfl rfl (gn rfl rfl rfl rfl (gn rfl rfl rfl rfl (xo (q_pick_f rfl rfl rfl) rfl (xm rfl rfl (gn rfl rfl rfl rfl (gn rfl rfl rfl rfl (gn rfl rfl rfl rfl (gn rfl rfl rfl rfl (gn rfl rfl rfl rfl (xo (q_pick_f rfl rfl rfl) rfl (xm rfl rfl (gn rfl rfl rfl rfl (gn rfl rfl rfl rfl (gn rfl rfl rfl rfl (gn rfl rfl rfl rfl (gn rfl rfl rfl rfl (xo (q_pick_f rfl rfl rfl) rfl (xs rfl rfl (nl (et (ev_ret (ret_pure' ttOk rfl rfl (congrArg bR (?_ : _ = _)))))))))))))))))))))))))))))))))))))))))))))))
    simp_all [sameL]
  ·refine gn h2 rfl rfl rfl (gn h2 rfl rfl rfl (gn h2 rfl rfl rfl (gn h2 rfl rfl rfl (gn h2 rfl rfl rfl (xo (q_pick_f rfl h2 rfl) rfl (xm rfl rfl (gn rfl rfl rfl rfl (gn rfl rfl rfl rfl (gn rfl rfl rfl rfl (gn rfl rfl rfl rfl (gn rfl rfl rfl rfl (xo (q_pick_f rfl rfl rfl) rfl (xm rfl rfl (gn rfl rfl rfl rfl (gn rfl rfl rfl rfl (gn rfl rfl rfl rfl (gn rfl rfl rfl rfl (gn rfl rfl rfl rfl (xo (q_pick_f rfl rfl rfl) rfl (xm rfl rfl (gn rfl rfl rfl rfl (gn rfl rfl rfl rfl (gn rfl rfl rfl rfl (gn rfl rfl rfl rfl (gn rfl rfl rfl rfl (xo (q_pick_f rfl rfl rfl) rfl (xm rfl rfl (gn rfl rfl rfl rfl (gn rfl rfl rfl rfl (gn rfl rfl rfl rfl (gn rfl rfl rfl rfl (gn rfl rfl rfl rfl (xo (q_pick_f rfl rfl rfl) rfl (xm rfl rfl (gn rfl rfl rfl rfl (gn rfl rfl rfl rfl (gn rfl rfl rfl rfl (gn rfl rfl rfl rfl (gn rfl rfl rfl rfl (xo (q_pick_f rfl rfl rfl) rfl (xm rfl rfl (gn rfl rfl rfl rfl (gn rfl rfl rfl rfl (gn rfl rfl rfl rfl (gn rfl rfl rfl rfl (gn rfl rfl rfl rfl (xo (q_pick_f rfl rfl rfl) rfl (xs rfl rfl (nl (et ?_))))))))))))))))))))))))))))))))))))))))))))))))))
   refine ev_ret (ret_pure' ttOk rfl rfl (congrArg bR (?_ : _ = _)))
   simp_all [sameL]
 ·refine gn h1 rfl rfl rfl (gn h1 rfl rfl rfl (gn h1 rfl rfl rfl (gn h1 rfl rfl rfl (gn h1 rfl rfl rfl (gn h1 rfl rfl rfl (gn h1 rfl rfl rfl (xo (q_pick_f rfl h1 rfl) rfl (xm rfl rfl (gn rfl rfl rfl rfl (gn rfl rfl rfl rfl (gn rfl rfl rfl rfl (gn rfl rfl rfl rfl (gn rfl rfl rfl rfl (xo (q_pick_f rfl rfl rfl) rfl (xm rfl rfl (gn rfl rfl rfl rfl (gn rfl rfl rfl rfl (gn rfl rfl rfl rfl (gn rfl rfl rfl rfl (gn rfl rfl rfl rfl (xo (q_pick_f rfl rfl rfl) rfl (xm rfl rfl (gn rfl rfl rfl rfl (gn rfl rfl rfl rfl (gn rfl rfl rfl rfl (gn rfl rfl rfl rfl (gn rfl rfl rfl rfl (xo (q_pick_f rfl rfl rfl) rfl (xm rfl rfl (gn rfl rfl rfl rfl (gn rfl rfl rfl rfl (gn rfl rfl rfl rfl (gn rfl rfl rfl rfl (gn rfl rfl rfl rfl (xo (q_pick_f rfl rfl rfl) rfl (xm rfl rfl (gn rfl rfl rfl rfl (gn rfl rfl rfl rfl (gn rfl rfl rfl rfl (gn rfl rfl rfl rfl (gn rfl rfl rfl rfl (xo (q_pick_f rfl rfl rfl) rfl (xm rfl rfl (gn rfl rfl rfl rfl (gn rfl rfl rfl rfl (gn rfl rfl rfl rfl (gn rfl rfl rfl rfl (gn rfl rfl rfl rfl (xo (q_pick_f rfl rfl rfl) rfl (xm rfl rfl ?_))))))))))))))))))))))))))))))))))))))))))))))))))
  refine gn rfl rfl rfl rfl (gn rfl rfl rfl rfl (gn rfl rfl rfl rfl (gn rfl rfl rfl rfl (gn rfl rfl rfl rfl (xo (q_pick_f rfl rfl rfl) rfl (xs rfl rfl (nl (et (ev_ret (ret_pure' ttOk rfl rfl (congrArg bR (?_ : _ = _))))))))))))
  simp_all [sameL]
end Go.Proofs.YtinmcdcmidlgpaaGreatDoor
