/- Walks of functions of the program, printed by a program of the prover. -/
import Derived.Test.YtinmcdcmidlgpaaGreatDoorAkF9
namespace Go.Proofs.YtinmcdcmidlgpaaGreatDoor
open Go.ChangeShapes Go.WideShapes Go.ChangeAt Go.RowKit
set_option linter.unusedVariables false
set_option linter.unusedSimpArgs false
set_option maxHeartbeats 1000000
set_option maxRecDepth 100000
attribute [local irreducible] EvL Ev EvE Quiet Eff Pure RDk RDb RDo
structure Head where
 num : Int
 base : Int
 time : Int
 seen : List Mark
@[reducible] def headC (h : Head) : List C := [iC h.num, iC h.base, iC h.time, marks h.seen]
@[reducible] def marksR (l : List Mark) : RC := .s 94 3 (l.map markC)
@[reducible] def headR (h : Head) : List RC := [.v (.int .i64 h.num), .v (.int .i64 h.base), .v (.int .i64 h.time), marksR h.seen]
def headOk (h : Head) : Bool := inB h.base 0 2000 && (inB h.num 0 h.base && (timeOk h.time && ((decide (h.base > 0) || decide (h.time = 0)) && (seenOk h.seen && decide (lastF h.seen = h.base)))))
theorem c_HeadOk (h : Head) : Pure Tryz.prog 95 [many (headC h)] (bR (headOk h)) := by
 refine pure_intro (N := 41) Tryz.func95 rfl rfl rfl rfl (fun H w => ?_)
 refine sq (rg (evl_e (e_box rfl rfl rfl rfl) (xs rfl rfl (nl (et (sq (ev_drawq [] mo (rk0 0 rfl (q_fieldAddr ttOk rfl) rfl (rk0 1 rfl (q_load ttOk rfl) rfl (rdk_one 2 kr (rdo_call (nm := 5) rfl trivial (cf rfl) (c_l1In _ _ _) (rs_of rfl) rfl rfl rfl (rk0 3 rfl (q_move rfl) rfl (rdk_part (t := 6) rfl (fun h1 => ?_) (fun h1 => ?_))))))))))))))
 ·refine rkt 4 rfl rfl rfl h1 (q_fieldAddr ttOk rfl) rfl (rkt 5 rfl rfl rfl h1 (q_load ttOk rfl) rfl (rkt 6 rfl rfl rfl h1 (q_fieldAddr ttOk rfl) rfl (rkt 7 rfl rfl rfl h1 (q_load ttOk rfl) rfl (rdk_one 8 kr (rdo_call (nm := 11) rfl ⟨_, _, rfl, rfl, h1⟩ (cf rfl) (c_l1In _ _ _) (rs_of rfl) rfl rfl rfl (rk0 9 rfl (q_pick_t rfl h1 rfl) rfl (rk0 10 rfl (q_move rfl) rfl (rdk_part (t := 13) rfl (fun h2 => ?_) (fun h2 => ?_)))))))))
  ·refine rkt 11 rfl rfl rfl h2 (q_fieldAddr ttOk rfl) rfl (rkt 12 rfl rfl rfl h2 (q_load ttOk rfl) rfl (rdk_one 13 kr (rdo_call (nm := 16) rfl ⟨_, _, rfl, rfl, h2⟩ (cf rfl) (c_TimeOk _) (rs_of rfl) rfl rfl rfl (rk0 14 rfl (q_pick_t rfl h2 rfl) rfl (rk0 15 rfl (q_move rfl) rfl (rdk_part (t := 18) rfl (fun h3 => ?_) (fun h3 => ?_)))))))
   ·refine rkt 16 rfl rfl rfl h3 (q_fieldAddr ttOk rfl) rfl (rkt 17 rfl rfl rfl h3 (q_load ttOk rfl) rfl (rkt 18 rfl rfl rfl h3 (q_bin ttOk rfl) rfl (rkt 19 rfl rfl rfl h3 (q_move rfl) rfl (rdk_part (t := 22) rfl (fun h4 => ?_) (fun h4 => ?_)))))
    ·refine rks 20 rfl rfl rfl h4 rfl (rks 21 rfl rfl rfl h4 rfl (rks 22 rfl rfl rfl h4 rfl (rkt 23 rfl rfl rfl h3 (q_pick_t rfl h4 rfl) rfl (rk0 24 rfl (q_pick_t rfl h3 rfl) rfl (rk0 25 rfl (q_move rfl) rfl (rkt 26 rfl rfl rfl rfl (q_fieldAddr ttOk rfl) rfl (rkt 27 rfl rfl rfl rfl (q_load ttOk rfl) rfl (rdk_one 28 kr (rdo_call (nm := 31) rfl ⟨_, _, rfl, rfl, rfl⟩ (cf rfl) (c_SeenOk _) (rs_of rfl) rfl rfl rfl (rk0 29 rfl (q_pick_t rfl rfl rfl) rfl (rk0 30 rfl (q_move rfl) rfl (rdk_part (t := 33) rfl (fun h5 => ?_) (fun h5 => ?_)))))))))))))
     ·refine rkt 31 rfl rfl rfl h5 (q_fieldAddr ttOk rfl) rfl (rkt 32 rfl rfl rfl h5 (q_load ttOk rfl) rfl (rkt 34 rfl rfl rfl h5 (q_fieldAddr ttOk rfl) rfl (rkt 35 rfl rfl rfl h5 (q_load ttOk rfl) rfl (rdk_one 33 kr (rdo_call (nm := 36) rfl ⟨_, _, rfl, rfl, h5⟩ (cf rfl) (c_LastSeen _) (rs_of rfl) rfl rfl rfl (rkt 36 rfl rfl rfl h5 (q_bin ttOk rfl) rfl (rk0 37 rfl (q_pick_t rfl h5 rfl) rfl (rk0 38 rfl (q_assign rfl) rfl (rdk_endq kr (et (ev_ret (ret_pure' ttOk rfl rfl (congrArg bR (?_ : _ = _))))))))))))))
      simp_all [headOk] <;> (intros; omega)
     ·refine rks 31 rfl rfl rfl h5 rfl (rks 32 rfl rfl rfl h5 rfl (rks 33 rfl rfl rfl h5 rfl (rks 34 rfl rfl rfl h5 rfl (rks 35 rfl rfl rfl h5 rfl (rks 36 rfl rfl rfl h5 rfl (rk0 37 rfl (q_pick_f rfl h5 rfl) rfl (rk0 38 rfl (q_assign rfl) rfl (rdk_endq kr (et (ev_ret (ret_pure' ttOk rfl rfl (congrArg bR (?_ : _ = _)))))))))))))
      simp_all [headOk] <;> (intros; omega)
    ·refine rkt 20 rfl rfl rfl h4 (q_fieldAddr ttOk rfl) rfl (rkt 21 rfl rfl rfl h4 (q_load ttOk rfl) rfl (rkt 22 rfl rfl rfl h4 (q_bin ttOk rfl) rfl (rkt 23 rfl rfl rfl h3 (q_pick_f rfl h4 rfl) rfl (rk0 24 rfl (q_pick_t rfl h3 rfl) rfl (rk0 25 rfl (q_move rfl) rfl (rdk_part (t := 28) rfl (fun h6 => ?_) (fun h6 => ?_)))))))
     ·refine rkt 26 rfl rfl rfl h6 (q_fieldAddr ttOk rfl) rfl (rkt 27 rfl rfl rfl h6 (q_load ttOk rfl) rfl (rdk_one 28 kr (rdo_call (nm := 31) rfl ⟨_, _, rfl, rfl, h6⟩ (cf rfl) (c_SeenOk _) (rs_of rfl) rfl rfl rfl (rk0 29 rfl (q_pick_t rfl h6 rfl) rfl (rk0 30 rfl (q_move rfl) rfl (rdk_part (t := 33) rfl (fun h7 => ?_) (fun h7 => ?_)))))))
      ·refine rkt 31 rfl rfl rfl h7 (q_fieldAddr ttOk rfl) rfl (rkt 32 rfl rfl rfl h7 (q_load ttOk rfl) rfl (rkt 34 rfl rfl rfl h7 (q_fieldAddr ttOk rfl) rfl (rkt 35 rfl rfl rfl h7 (q_load ttOk rfl) rfl (rdk_one 33 kr (rdo_call (nm := 36) rfl ⟨_, _, rfl, rfl, h7⟩ (cf rfl) (c_LastSeen _) (rs_of rfl) rfl rfl rfl (rkt 36 rfl rfl rfl h7 (q_bin ttOk rfl) rfl (rk0 37 rfl (q_pick_t rfl h7 rfl) rfl (rk0 38 rfl (q_assign rfl) rfl (rdk_endq kr (et (ev_ret (ret_pure' ttOk rfl rfl (congrArg bR (?_ : _ = _))))))))))))))
       simp_all [headOk] <;> (intros; omega)
      ·refine rks 31 rfl rfl rfl h7 rfl (rks 32 rfl rfl rfl h7 rfl (rks 33 rfl rfl rfl h7 rfl (rks 34 rfl rfl rfl h7 rfl (rks 35 rfl rfl rfl h7 rfl (rks 36 rfl rfl rfl h7 rfl (rk0 37 rfl (q_pick_f rfl h7 rfl) rfl (rk0 38 rfl (q_assign rfl) rfl (rdk_endq kr (et (ev_ret (ret_pure' ttOk rfl rfl (congrArg bR (?_ : _ = _)))))))))))))
       simp_all [headOk] <;> (intros; omega)
     ·refine rks 26 rfl rfl rfl h6 rfl (rks 27 rfl rfl rfl h6 rfl (rks 28 rfl rfl rfl h6 rfl (rk0 29 rfl (q_pick_f rfl h6 rfl) rfl (rk0 30 rfl (q_move rfl) rfl (rks 31 rfl rfl rfl rfl rfl (rks 32 rfl rfl rfl rfl rfl (rks 33 rfl rfl rfl rfl rfl (rks 34 rfl rfl rfl rfl rfl (rks 35 rfl rfl rfl rfl rfl (rks 36 rfl rfl rfl rfl rfl (rk0 37 rfl (q_pick_f rfl rfl rfl) rfl (rk0 38 rfl (q_assign rfl) rfl (rdk_endq kr (et (ev_ret (ret_pure' ttOk rfl rfl (congrArg bR (?_ : _ = _))))))))))))))))))
      simp_all [headOk] <;> (intros; omega)
   ·refine rks 16 rfl rfl rfl h3 rfl (rks 17 rfl rfl rfl h3 rfl (rks 18 rfl rfl rfl h3 rfl (rks 19 rfl rfl rfl h3 rfl (rdk_skip 20 rfl kr ⟨_, rfl, .inr rfl⟩ rfl (rdk_skip 21 rfl kr ⟨_, rfl, .inr rfl⟩ rfl (rdk_skip 22 rfl kr ⟨_, rfl, .inr rfl⟩ rfl (rks 23 rfl rfl rfl h3 rfl (rk0 24 rfl (q_pick_f rfl h3 rfl) rfl (rk0 25 rfl (q_move rfl) rfl (rks 26 rfl rfl rfl rfl rfl (rks 27 rfl rfl rfl rfl rfl (rks 28 rfl rfl rfl rfl rfl (rk0 29 rfl (q_pick_f rfl rfl rfl) rfl (rk0 30 rfl (q_move rfl) rfl (rks 31 rfl rfl rfl rfl rfl (rks 32 rfl rfl rfl rfl rfl (rks 33 rfl rfl rfl rfl rfl (rks 34 rfl rfl rfl rfl rfl (rks 35 rfl rfl rfl rfl rfl (rks 36 rfl rfl rfl rfl rfl (rk0 37 rfl (q_pick_f rfl rfl rfl) rfl (rk0 38 rfl (q_assign rfl) rfl (rdk_endq kr (et (ev_ret (ret_pure' ttOk rfl rfl (congrArg bR (?_ : _ = _))))))))))))))))))))))))))))
    simp_all [headOk] <;> (intros; omega)
  ·refine rks 11 rfl rfl rfl h2 rfl (rks 12 rfl rfl rfl h2 rfl (rks 13 rfl rfl rfl h2 rfl (rk0 14 rfl (q_pick_f rfl h2 rfl) rfl (rk0 15 rfl (q_move rfl) rfl (rks 16 rfl rfl rfl rfl rfl (rks 17 rfl rfl rfl rfl rfl (rks 18 rfl rfl rfl rfl rfl (rks 19 rfl rfl rfl rfl rfl (rdk_skip 20 rfl kr ⟨_, rfl, .inr rfl⟩ rfl (rdk_skip 21 rfl kr ⟨_, rfl, .inr rfl⟩ rfl (rdk_skip 22 rfl kr ⟨_, rfl, .inr rfl⟩ rfl (rks 23 rfl rfl rfl rfl rfl (rk0 24 rfl (q_pick_f rfl rfl rfl) rfl (rk0 25 rfl (q_move rfl) rfl (rks 26 rfl rfl rfl rfl rfl (rks 27 rfl rfl rfl rfl rfl (rks 28 rfl rfl rfl rfl rfl (rk0 29 rfl (q_pick_f rfl rfl rfl) rfl (rk0 30 rfl (q_move rfl) rfl (rks 31 rfl rfl rfl rfl rfl (rks 32 rfl rfl rfl rfl rfl (rks 33 rfl rfl rfl rfl rfl (rks 34 rfl rfl rfl rfl rfl (rks 35 rfl rfl rfl rfl rfl (rks 36 rfl rfl rfl rfl rfl (rk0 37 rfl (q_pick_f rfl rfl rfl) rfl (rk0 38 rfl (q_assign rfl) rfl (rdk_endq kr (et (ev_ret (ret_pure' ttOk rfl rfl (congrArg bR (?_ : _ = _)))))))))))))))))))))))))))))))))
   simp_all [headOk] <;> (intros; omega)
 ·refine rks 4 rfl rfl rfl h1 rfl (rks 5 rfl rfl rfl h1 rfl (rks 6 rfl rfl rfl h1 rfl (rks 7 rfl rfl rfl h1 rfl (rks 8 rfl rfl rfl h1 rfl (rk0 9 rfl (q_pick_f rfl h1 rfl) rfl (rk0 10 rfl (q_move rfl) rfl (rks 11 rfl rfl rfl rfl rfl (rks 12 rfl rfl rfl rfl rfl (rks 13 rfl rfl rfl rfl rfl (rk0 14 rfl (q_pick_f rfl rfl rfl) rfl (rk0 15 rfl (q_move rfl) rfl (rks 16 rfl rfl rfl rfl rfl (rks 17 rfl rfl rfl rfl rfl (rks 18 rfl rfl rfl rfl rfl (rks 19 rfl rfl rfl rfl rfl (rdk_skip 20 rfl kr ⟨_, rfl, .inr rfl⟩ rfl (rdk_skip 21 rfl kr ⟨_, rfl, .inr rfl⟩ rfl (rdk_skip 22 rfl kr ⟨_, rfl, .inr rfl⟩ rfl (rks 23 rfl rfl rfl rfl rfl (rk0 24 rfl (q_pick_f rfl rfl rfl) rfl (rk0 25 rfl (q_move rfl) rfl (rks 26 rfl rfl rfl rfl rfl (rks 27 rfl rfl rfl rfl rfl (rks 28 rfl rfl rfl rfl rfl (rk0 29 rfl (q_pick_f rfl rfl rfl) rfl (rk0 30 rfl (q_move rfl) rfl (rks 31 rfl rfl rfl rfl rfl (rks 32 rfl rfl rfl rfl rfl (rks 33 rfl rfl rfl rfl rfl (rks 34 rfl rfl rfl rfl rfl (rks 35 rfl rfl rfl rfl rfl (rks 36 rfl rfl rfl rfl rfl (rk0 37 rfl (q_pick_f rfl rfl rfl) rfl (rk0 38 rfl (q_assign rfl) rfl (rdk_endq kr (et (ev_ret (ret_pure' ttOk rfl rfl (congrArg bR (?_ : _ = _))))))))))))))))))))))))))))))))))))))))
  simp_all [headOk] <;> (intros; omega)
theorem c_HeadOk' (h : Head) : Pure Tryz.prog 115 [many (headC h)] (bR (headOk h)) := by
 refine pure_intro (N := 41) Tryz.func115 rfl rfl rfl rfl (fun H w => ?_)
 refine sq (rg (evl_e (e_box rfl rfl rfl rfl) (xs rfl rfl (nl (et (sq (ev_drawq [] mo (rk0 0 rfl (q_fieldAddr ttOk rfl) rfl (rk0 1 rfl (q_load ttOk rfl) rfl (rdk_one 2 kr (rdo_call (nm := 5) rfl trivial (cf rfl) (c_between _ _ _) (rs_of rfl) rfl rfl rfl (rk0 3 rfl (q_move rfl) rfl (rdk_part (t := 6) rfl (fun h1 => ?_) (fun h1 => ?_))))))))))))))
 ·refine rkt 4 rfl rfl rfl h1 (q_fieldAddr ttOk rfl) rfl (rkt 5 rfl rfl rfl h1 (q_load ttOk rfl) rfl (rkt 6 rfl rfl rfl h1 (q_fieldAddr ttOk rfl) rfl (rkt 7 rfl rfl rfl h1 (q_load ttOk rfl) rfl (rdk_one 8 kr (rdo_call (nm := 11) rfl ⟨_, _, rfl, rfl, h1⟩ (cf rfl) (c_between _ _ _) (rs_of rfl) rfl rfl rfl (rk0 9 rfl (q_pick_t rfl h1 rfl) rfl (rk0 10 rfl (q_move rfl) rfl (rdk_part (t := 13) rfl (fun h2 => ?_) (fun h2 => ?_)))))))))
  ·refine rkt 11 rfl rfl rfl h2 (q_fieldAddr ttOk rfl) rfl (rkt 12 rfl rfl rfl h2 (q_load ttOk rfl) rfl (rdk_one 13 kr (rdo_call (nm := 16) rfl ⟨_, _, rfl, rfl, h2⟩ (cf rfl) (c_TimeOk' _) (rs_of rfl) rfl rfl rfl (rk0 14 rfl (q_pick_t rfl h2 rfl) rfl (rk0 15 rfl (q_move rfl) rfl (rdk_part (t := 18) rfl (fun h3 => ?_) (fun h3 => ?_)))))))
   ·refine rkt 16 rfl rfl rfl h3 (q_fieldAddr ttOk rfl) rfl (rkt 17 rfl rfl rfl h3 (q_load ttOk rfl) rfl (rkt 18 rfl rfl rfl h3 (q_bin ttOk rfl) rfl (rkt 19 rfl rfl rfl h3 (q_move rfl) rfl (rdk_part (t := 22) rfl (fun h4 => ?_) (fun h4 => ?_)))))
    ·refine rks 20 rfl rfl rfl h4 rfl (rks 21 rfl rfl rfl h4 rfl (rks 22 rfl rfl rfl h4 rfl (rkt 23 rfl rfl rfl h3 (q_pick_t rfl h4 rfl) rfl (rk0 24 rfl (q_pick_t rfl h3 rfl) rfl (rk0 25 rfl (q_move rfl) rfl (rkt 26 rfl rfl rfl rfl (q_fieldAddr ttOk rfl) rfl (rkt 27 rfl rfl rfl rfl (q_load ttOk rfl) rfl (rdk_one 28 kr (rdo_call (nm := 31) rfl ⟨_, _, rfl, rfl, rfl⟩ (cf rfl) (c_SeenOk' _) (rs_of rfl) rfl rfl rfl (rk0 29 rfl (q_pick_t rfl rfl rfl) rfl (rk0 30 rfl (q_move rfl) rfl (rdk_part (t := 33) rfl (fun h5 => ?_) (fun h5 => ?_)))))))))))))
     ·refine rkt 31 rfl rfl rfl h5 (q_fieldAddr ttOk rfl) rfl (rkt 32 rfl rfl rfl h5 (q_load ttOk rfl) rfl (rkt 34 rfl rfl rfl h5 (q_fieldAddr ttOk rfl) rfl (rkt 35 rfl rfl rfl h5 (q_load ttOk rfl) rfl (rdk_one 33 kr (rdo_call (nm := 36) rfl ⟨_, _, rfl, rfl, h5⟩ (cf rfl) (c_lastSeen _) (rs_of rfl) rfl rfl rfl (rkt 36 rfl rfl rfl h5 (q_bin ttOk rfl) rfl (rk0 37 rfl (q_pick_t rfl h5 rfl) rfl (rk0 38 rfl (q_assign rfl) rfl (rdk_endq kr (et (ev_ret (ret_pure' ttOk rfl rfl (congrArg bR (?_ : _ = _))))))))))))))
      simp_all [headOk] <;> (intros; omega)
     ·refine rks 31 rfl rfl rfl h5 rfl (rks 32 rfl rfl rfl h5 rfl (rks 33 rfl rfl rfl h5 rfl (rks 34 rfl rfl rfl h5 rfl (rks 35 rfl rfl rfl h5 rfl (rks 36 rfl rfl rfl h5 rfl (rk0 37 rfl (q_pick_f rfl h5 rfl) rfl (rk0 38 rfl (q_assign rfl) rfl (rdk_endq kr (et (ev_ret (ret_pure' ttOk rfl rfl (congrArg bR (?_ : _ = _)))))))))))))
      simp_all [headOk] <;> (intros; omega)
    ·refine rkt 20 rfl rfl rfl h4 (q_fieldAddr ttOk rfl) rfl (rkt 21 rfl rfl rfl h4 (q_load ttOk rfl) rfl (rkt 22 rfl rfl rfl h4 (q_bin ttOk rfl) rfl (rkt 23 rfl rfl rfl h3 (q_pick_f rfl h4 rfl) rfl (rk0 24 rfl (q_pick_t rfl h3 rfl) rfl (rk0 25 rfl (q_move rfl) rfl (rdk_part (t := 28) rfl (fun h6 => ?_) (fun h6 => ?_)))))))
     ·refine rkt 26 rfl rfl rfl h6 (q_fieldAddr ttOk rfl) rfl (rkt 27 rfl rfl rfl h6 (q_load ttOk rfl) rfl (rdk_one 28 kr (rdo_call (nm := 31) rfl ⟨_, _, rfl, rfl, h6⟩ (cf rfl) (c_SeenOk' _) (rs_of rfl) rfl rfl rfl (rk0 29 rfl (q_pick_t rfl h6 rfl) rfl (rk0 30 rfl (q_move rfl) rfl (rdk_part (t := 33) rfl (fun h7 => ?_) (fun h7 => ?_)))))))
      ·refine rkt 31 rfl rfl rfl h7 (q_fieldAddr ttOk rfl) rfl (rkt 32 rfl rfl rfl h7 (q_load ttOk rfl) rfl (rkt 34 rfl rfl rfl h7 (q_fieldAddr ttOk rfl) rfl (rkt 35 rfl rfl rfl h7 (q_load ttOk rfl) rfl (rdk_one 33 kr (rdo_call (nm := 36) rfl ⟨_, _, rfl, rfl, h7⟩ (cf rfl) (c_lastSeen _) (rs_of rfl) rfl rfl rfl (rkt 36 rfl rfl rfl h7 (q_bin ttOk rfl) rfl (rk0 37 rfl (q_pick_t rfl h7 rfl) rfl (rk0 38 rfl (q_assign rfl) rfl (rdk_endq kr (et (ev_ret (ret_pure' ttOk rfl rfl (congrArg bR (?_ : _ = _))))))))))))))
       simp_all [headOk] <;> (intros; omega)
      ·refine rks 31 rfl rfl rfl h7 rfl (rks 32 rfl rfl rfl h7 rfl (rks 33 rfl rfl rfl h7 rfl (rks 34 rfl rfl rfl h7 rfl (rks 35 rfl rfl rfl h7 rfl (rks 36 rfl rfl rfl h7 rfl (rk0 37 rfl (q_pick_f rfl h7 rfl) rfl (rk0 38 rfl (q_assign rfl) rfl (rdk_endq kr (et (ev_ret (ret_pure' ttOk rfl rfl (congrArg bR (?_ : _ = _)))))))))))))
       simp_all [headOk] <;> (intros; omega)
     ·refine rks 26 rfl rfl rfl h6 rfl (rks 27 rfl rfl rfl h6 rfl (rks 28 rfl rfl rfl h6 rfl (rk0 29 rfl (q_pick_f rfl h6 rfl) rfl (rk0 30 rfl (q_move rfl) rfl (rks 31 rfl rfl rfl rfl rfl (rks 32 rfl rfl rfl rfl rfl (rks 33 rfl rfl rfl rfl rfl (rks 34 rfl rfl rfl rfl rfl (rks 35 rfl rfl rfl rfl rfl (rks 36 rfl rfl rfl rfl rfl (rk0 37 rfl (q_pick_f rfl rfl rfl) rfl (rk0 38 rfl (q_assign rfl) rfl (rdk_endq kr (et (ev_ret (ret_pure' ttOk rfl rfl (congrArg bR (?_ : _ = _))))))))))))))))))
      simp_all [headOk] <;> (intros; omega)
   ·refine rks 16 rfl rfl rfl h3 rfl (rks 17 rfl rfl rfl h3 rfl (rks 18 rfl rfl rfl h3 rfl (rks 19 rfl rfl rfl h3 rfl (rdk_skip 20 rfl kr ⟨_, rfl, .inr rfl⟩ rfl (rdk_skip 21 rfl kr ⟨_, rfl, .inr rfl⟩ rfl (rdk_skip 22 rfl kr ⟨_, rfl, .inr rfl⟩ rfl (rks 23 rfl rfl rfl h3 rfl (rk0 24 rfl (q_pick_f rfl h3 rfl) rfl (rk0 25 rfl (q_move rfl) rfl (rks 26 rfl rfl rfl rfl rfl (rks 27 rfl rfl rfl rfl rfl (rks 28 rfl rfl rfl rfl rfl (rk0 29 rfl (q_pick_f rfl rfl rfl) rfl (rk0 30 rfl (q_move rfl) rfl (rks 31 rfl rfl rfl rfl rfl (rks 32 rfl rfl rfl rfl rfl (rks 33 rfl rfl rfl rfl rfl (rks 34 rfl rfl rfl rfl rfl (rks 35 rfl rfl rfl rfl rfl (rks 36 rfl rfl rfl rfl rfl (rk0 37 rfl (q_pick_f rfl rfl rfl) rfl (rk0 38 rfl (q_assign rfl) rfl (rdk_endq kr (et (ev_ret (ret_pure' ttOk rfl rfl (congrArg bR (?_ : _ = _))))))))))))))))))))))))))))
    simp_all [headOk] <;> (intros; omega)
  ·refine rks 11 rfl rfl rfl h2 rfl (rks 12 rfl rfl rfl h2 rfl (rks 13 rfl rfl rfl h2 rfl (rk0 14 rfl (q_pick_f rfl h2 rfl) rfl (rk0 15 rfl (q_move rfl) rfl (rks 16 rfl rfl rfl rfl rfl (rks 17 rfl rfl rfl rfl rfl (rks 18 rfl rfl rfl rfl rfl (rks 19 rfl rfl rfl rfl rfl (rdk_skip 20 rfl kr ⟨_, rfl, .inr rfl⟩ rfl (rdk_skip 21 rfl kr ⟨_, rfl, .inr rfl⟩ rfl (rdk_skip 22 rfl kr ⟨_, rfl, .inr rfl⟩ rfl (rks 23 rfl rfl rfl rfl rfl (rk0 24 rfl (q_pick_f rfl rfl rfl) rfl (rk0 25 rfl (q_move rfl) rfl (rks 26 rfl rfl rfl rfl rfl (rks 27 rfl rfl rfl rfl rfl (rks 28 rfl rfl rfl rfl rfl (rk0 29 rfl (q_pick_f rfl rfl rfl) rfl (rk0 30 rfl (q_move rfl) rfl (rks 31 rfl rfl rfl rfl rfl (rks 32 rfl rfl rfl rfl rfl (rks 33 rfl rfl rfl rfl rfl (rks 34 rfl rfl rfl rfl rfl (rks 35 rfl rfl rfl rfl rfl (rks 36 rfl rfl rfl rfl rfl (rk0 37 rfl (q_pick_f rfl rfl rfl) rfl (rk0 38 rfl (q_assign rfl) rfl (rdk_endq kr (et (ev_ret (ret_pure' ttOk rfl rfl (congrArg bR (?_ : _ = _)))))))))))))))))))))))))))))))))
   simp_all [headOk] <;> (intros; omega)
 ·refine rks 4 rfl rfl rfl h1 rfl (rks 5 rfl rfl rfl h1 rfl (rks 6 rfl rfl rfl h1 rfl (rks 7 rfl rfl rfl h1 rfl (rks 8 rfl rfl rfl h1 rfl (rk0 9 rfl (q_pick_f rfl h1 rfl) rfl (rk0 10 rfl (q_move rfl) rfl (rks 11 rfl rfl rfl rfl rfl (rks 12 rfl rfl rfl rfl rfl (rks 13 rfl rfl rfl rfl rfl (rk0 14 rfl (q_pick_f rfl rfl rfl) rfl (rk0 15 rfl (q_move rfl) rfl (rks 16 rfl rfl rfl rfl rfl (rks 17 rfl rfl rfl rfl rfl (rks 18 rfl rfl rfl rfl rfl (rks 19 rfl rfl rfl rfl rfl (rdk_skip 20 rfl kr ⟨_, rfl, .inr rfl⟩ rfl (rdk_skip 21 rfl kr ⟨_, rfl, .inr rfl⟩ rfl (rdk_skip 22 rfl kr ⟨_, rfl, .inr rfl⟩ rfl (rks 23 rfl rfl rfl rfl rfl (rk0 24 rfl (q_pick_f rfl rfl rfl) rfl (rk0 25 rfl (q_move rfl) rfl (rks 26 rfl rfl rfl rfl rfl (rks 27 rfl rfl rfl rfl rfl (rks 28 rfl rfl rfl rfl rfl (rk0 29 rfl (q_pick_f rfl rfl rfl) rfl (rk0 30 rfl (q_move rfl) rfl (rks 31 rfl rfl rfl rfl rfl (rks 32 rfl rfl rfl rfl rfl (rks 33 rfl rfl rfl rfl rfl (rks 34 rfl rfl rfl rfl rfl (rks 35 rfl rfl rfl rfl rfl (rks 36 rfl rfl rfl rfl rfl (rk0 37 rfl (q_pick_f rfl rfl rfl) rfl (rk0 38 rfl (q_assign rfl) rfl (rdk_endq kr (et (ev_ret (ret_pure' ttOk rfl rfl (congrArg bR (?_ : _ = _))))))))))))))))))))))))))))))))))))))))
  simp_all [headOk] <;> (intros; omega)
def noHead : Head := ⟨0, 0, 0, []⟩
theorem get_map {α β : Type} {f : α → β} {L : List α} {k : Nat} (hk : k < L.length) : (L.map f)[k]? = some (f L[k]) := by rw [List.getElem?_map, List.getElem?_eq_getElem hk]; rfl
theorem e_ints (l : List Int) : Pure Tryz.prog 244 [one (ints l), one (ints l)] (bR true) := by
 refine pure_intro (N := 26) Tryz.func244 rfl rfl rfl rfl (fun H w => ?_)
 refine ev_lenm (t := 0) rfl (fun hL => ?_)
 refine ev_lenm (t := 1) rfl (fun hM => ?_)
 refine sq (rg (xs rfl rfl (nl (et (sq (sq (rg (xm rfl rfl (xo (q_len_map ttOk rfl rfl) rfl (xm rfl rfl (xo (q_len_map ttOk rfl rfl) rfl (xb ttOk rfl rfl (nl (et (ev_cond rfl (fun h1 => ?_) (fun h1 => ?_))))))))))))))))
 ·try have d1 := of_decide_eq_true h1
  refine sq (rg (xs rfl rfl (nl (et (ev_ret (evr_then (ret_pure' ttOk rfl rfl (congrArg bR (?_ : _ = _)))))))))
  first | rfl | (exfalso; simp_all; done) | (exfalso; omega)
 ·try have d1 := of_decide_eq_false h1
  refine ev_skip (et (sq (sq (rg (xs rfl rfl (nl (et (ev_blk (ev_loop (fun k : Nat => (⟨[(5, iV k), (0, cV (ints l)), (1, cV (ints l))], [], [], []⟩ : St)) (fun k => k ≤ l.length) (fun k => l.length - k) 0 [] (by simp) lei ?_)))))))))
  intro k hp
  have p0 := hp
  show Ev _ _ _ _ (⟨[(5, iV k), (0, cV (ints l)), (1, cV (ints l))], [], [], []⟩ : St)
  refine sq (sq (rg (xm rfl rfl (xm rfl rfl (xo (q_len_map ttOk rfl rfl) rfl (xb ttOk rfl rfl (nl (et (ev_cond rfl (fun h2 => ?_) (fun h2 => ?_))))))))))
  ·try have d2 := of_decide_eq_true h2
   refine ev_skip (et (sq (ev_blk (sq (ev_drawq [] mo (rk0 0 rfl (q_move rfl) rfl (rk0 1 rfl (q_move rfl) rfl (rk0 2 rfl (q_ix_map ttOk rfl rfl rfl rfl om) rfl (rk0 3 rfl (q_load ttOk rfl) rfl (rk0 4 rfl (q_move rfl) rfl (rk0 5 rfl (q_move rfl) rfl (rk0 6 rfl (q_ix_map ttOk rfl rfl rfl rfl om) rfl (rk0 7 rfl (q_load ttOk rfl) rfl (rk0 8 rfl (q_bin ttOk rfl) rfl (rdk_endq kr (et (ev_cond rfl (fun h3 => ?_) (fun h3 => ?_))))))))))))))))))
   ·try have d3 := of_decide_eq_true h3
    refine sq (rg (xs rfl rfl (nl (et (ev_ret (evr_blk (evr_then (evr_then (evr_blk (evr_then (ret_pure' ttOk rfl rfl (congrArg bR (?_ : _ = _)))))))))))))
    first | rfl | (exfalso; simp_all; done) | (exfalso; omega)
   ·try have d3 := of_decide_eq_false h3
    refine ev_skip (eb (et (rg (xm rfl rfl (xa rfl rfl rfl om rfl (xs rfl rfl (nl (eve_round (k + 1) [] ?hp lei))))))))
    case hp => exact ⟨by omega, by omega⟩
  ·try have d2 := of_decide_eq_false h2
   refine ev_exit (evx_then (evx_then (evx_hit (et (sq (rg (xs rfl rfl (nl (et (ev_ret (ret_pure' ttOk rfl rfl (congrArg bR (?_ : _ = _)))))))))))))
   first | rfl | (exfalso; simp_all; done) | (exfalso; omega)
theorem e_rows (l : List (List Int)) : Pure Tryz.prog 213 [one (rows l), one (rows l)] (bR true) := by
 refine pure_intro (N := 27) Tryz.func213 rfl rfl rfl rfl (fun H w => ?_)
 refine ev_lenm (t := 0) rfl (fun hL => ?_)
 refine ev_lenm (t := 1) rfl (fun hM => ?_)
 refine sq (rg (xs rfl rfl (nl (et (sq (sq (rg (xm rfl rfl (xo (q_len_map ttOk rfl rfl) rfl (xm rfl rfl (xo (q_len_map ttOk rfl rfl) rfl (xb ttOk rfl rfl (nl (et (ev_cond rfl (fun h1 => ?_) (fun h1 => ?_))))))))))))))))
 ·try have d1 := of_decide_eq_true h1
  refine sq (rg (xs rfl rfl (nl (et (ev_ret (evr_then (ret_pure' ttOk rfl rfl (congrArg bR (?_ : _ = _)))))))))
  first | rfl | (exfalso; simp_all; done) | (exfalso; omega)
 ·try have d1 := of_decide_eq_false h1
  refine ev_skip (et (sq (sq (rg (xs rfl rfl (nl (et (ev_blk (ev_loop (fun k : Nat => (⟨[(5, iV k), (0, cV (rows l)), (1, cV (rows l))], [], [], []⟩ : St)) (fun k => k ≤ l.length) (fun k => l.length - k) 0 [] (by simp) lei ?_)))))))))
  intro k hp
  have p0 := hp
  show Ev _ _ _ _ (⟨[(5, iV k), (0, cV (rows l)), (1, cV (rows l))], [], [], []⟩ : St)
  refine sq (sq (rg (xm rfl rfl (xm rfl rfl (xo (q_len_map ttOk rfl rfl) rfl (xb ttOk rfl rfl (nl (et (ev_cond rfl (fun h2 => ?_) (fun h2 => ?_))))))))))
  ·try have d2 := of_decide_eq_true h2
   refine ev_skip (et (sq (ev_blk (sq (ev_drawq [] mo (rk0 0 rfl (q_move rfl) rfl (rk0 1 rfl (q_move rfl) rfl (rk0 2 rfl (q_ix_map ttOk rfl rfl rfl rfl om) rfl (rk0 3 rfl (q_load ttOk rfl) rfl (rk0 4 rfl (q_move rfl) rfl (rk0 5 rfl (q_move rfl) rfl (rk0 6 rfl (q_ix_map ttOk rfl rfl rfl rfl om) rfl (rk0 7 rfl (q_load ttOk rfl) rfl (rdk_one 8 kr (rdo_call (nm := 25) rfl trivial (cf rfl) (e_ints _) (rs_of rfl) rfl rfl rfl (rk0 9 rfl (q_not rfl) rfl (rdk_endq kr (et (ev_cond_n rfl (fun h3 => ?_) (fun h3 => ?_))))))))))))))))))))
   ·try have d3 := of_decide_eq_false h3
    refine sq (rg (xs rfl rfl (nl (et (ev_ret (evr_blk (evr_then (evr_then (evr_blk (evr_then (ret_pure' ttOk rfl rfl (congrArg bR (?_ : _ = _)))))))))))))
    first | rfl | (exfalso; simp_all; done) | (exfalso; omega)
   ·try have d3 := of_decide_eq_true h3
    refine ev_skip (eb (et (rg (xm rfl rfl (xa rfl rfl rfl om rfl (xs rfl rfl (nl (eve_round (k + 1) [] ?hp lei))))))))
    case hp => exact ⟨by omega, by omega⟩
  ·try have d2 := of_decide_eq_false h2
   refine ev_exit (evx_then (evx_then (evx_hit (et (sq (rg (xs rfl rfl (nl (et (ev_ret (ret_pure' ttOk rfl rfl (congrArg bR (?_ : _ = _)))))))))))))
   first | rfl | (exfalso; simp_all; done) | (exfalso; omega)
theorem e_write (x : Int × List Int) : Pure Tryz.prog 245 [many ([iC x.1, ints x.2]), many ([iC x.1, ints x.2])] (bR true) := by
 refine pure_intro (N := 16) Tryz.func245 rfl rfl rfl rfl (fun H w => ?_)
 refine sq (rg (evl_e (e_box rfl rfl rfl rfl) (evl_e (e_box rfl rfl rfl rfl) (xs rfl rfl (nl (et (sq (sq (rg (xf ttOk rfl rfl (xl ttOk rfl rfl (xf ttOk rfl rfl (xl ttOk rfl rfl (xb ttOk rfl rfl (nl (et (ev_cond rfl (fun h1 => ?_) (fun h1 => ?_))))))))))))))))))
 ·try have d1 := of_decide_eq_true h1
  refine sq (rg (xs rfl rfl (nl (et (ev_ret (evr_then (ret_pure' ttOk rfl rfl (congrArg bR (?_ : _ = _)))))))))
  first | rfl | (exfalso; simp_all; done) | (exfalso; omega)
 ·try have d1 := of_decide_eq_false h1
  refine ev_skip (et (sq (sq (rg (xf ttOk rfl rfl (xl ttOk rfl rfl (xf ttOk rfl rfl (xl ttOk rfl rfl (evl_call (nm := 14) (cf rfl) (e_ints _) (rs_of rfl) rfl rfl rfl (xo (q_not rfl) rfl (nl (et (ev_cond_n rfl (fun h2 => ?_) (fun h2 => ?_))))))))))))))
  ·try have d2 := of_decide_eq_false h2
   refine sq (rg (xs rfl rfl (nl (et (ev_ret (evr_then (ret_pure' ttOk rfl rfl (congrArg bR (?_ : _ = _)))))))))
   first | rfl | (exfalso; simp_all; done) | (exfalso; omega)
  ·try have d2 := of_decide_eq_true h2
   refine ev_skip (et (sq (rg (xs rfl rfl (nl (et (ev_ret (ret_pure' ttOk rfl rfl (congrArg bR (?_ : _ = _))))))))))
   first | rfl | (exfalso; simp_all; done) | (exfalso; omega)
theorem e_writes (l : List (Int × List Int)) : Pure Tryz.prog 214 [one (writes l), one (writes l)] (bR true) := by
 refine pure_intro (N := 27) Tryz.func214 rfl rfl rfl rfl (fun H w => ?_)
 refine ev_lenm (t := 0) rfl (fun hL => ?_)
 refine ev_lenm (t := 1) rfl (fun hM => ?_)
 refine sq (rg (xs rfl rfl (nl (et (sq (sq (rg (xm rfl rfl (xo (q_len_map ttOk rfl rfl) rfl (xm rfl rfl (xo (q_len_map ttOk rfl rfl) rfl (xb ttOk rfl rfl (nl (et (ev_cond rfl (fun h1 => ?_) (fun h1 => ?_))))))))))))))))
 ·try have d1 := of_decide_eq_true h1
  refine sq (rg (xs rfl rfl (nl (et (ev_ret (evr_then (ret_pure' ttOk rfl rfl (congrArg bR (?_ : _ = _)))))))))
  first | rfl | (exfalso; simp_all; done) | (exfalso; omega)
 ·try have d1 := of_decide_eq_false h1
  refine ev_skip (et (sq (sq (rg (xs rfl rfl (nl (et (ev_blk (ev_loop (fun k : Nat => (⟨[(5, iV k), (0, cV (writes l)), (1, cV (writes l))], [], [], []⟩ : St)) (fun k => k ≤ l.length) (fun k => l.length - k) 0 [] (by simp) lei ?_)))))))))
  intro k hp
  have p0 := hp
  show Ev _ _ _ _ (⟨[(5, iV k), (0, cV (writes l)), (1, cV (writes l))], [], [], []⟩ : St)
  refine sq (sq (rg (xm rfl rfl (xm rfl rfl (xo (q_len_map ttOk rfl rfl) rfl (xb ttOk rfl rfl (nl (et (ev_cond rfl (fun h2 => ?_) (fun h2 => ?_))))))))))
  ·try have d2 := of_decide_eq_true h2
   refine ev_skip (et (sq (ev_blk (sq (ev_drawq [] mo (rk0 0 rfl (q_move rfl) rfl (rk0 1 rfl (q_move rfl) rfl (rk0 2 rfl (q_ix_map ttOk rfl rfl rfl rfl om) rfl (rk0 3 rfl (q_load ttOk rfl) rfl (rk0 4 rfl (q_move rfl) rfl (rk0 5 rfl (q_move rfl) rfl (rk0 6 rfl (q_ix_map ttOk rfl rfl rfl rfl om) rfl (rk0 7 rfl (q_load ttOk rfl) rfl (rdk_one 8 kr (rdo_call (nm := 25) rfl trivial (cf rfl) (e_write ⟨_, _⟩) (rs_of rfl) rfl rfl rfl (rk0 9 rfl (q_not rfl) rfl (rdk_endq kr (et (ev_cond_n rfl (fun h3 => ?_) (fun h3 => ?_))))))))))))))))))))
   ·try have d3 := of_decide_eq_false h3
    refine sq (rg (xs rfl rfl (nl (et (ev_ret (evr_blk (evr_then (evr_then (evr_blk (evr_then (ret_pure' ttOk rfl rfl (congrArg bR (?_ : _ = _)))))))))))))
    first | rfl | (exfalso; simp_all; done) | (exfalso; omega)
   ·try have d3 := of_decide_eq_true h3
    refine ev_skip (eb (et (rg (xm rfl rfl (xa rfl rfl rfl om rfl (xs rfl rfl (nl (eve_round (k + 1) [] ?hp lei))))))))
    case hp => exact ⟨by omega, by omega⟩
  ·try have d2 := of_decide_eq_false h2
   refine ev_exit (evx_then (evx_then (evx_hit (et (sq (rg (xs rfl rfl (nl (et (ev_ret (ret_pure' ttOk rfl rfl (congrArg bR (?_ : _ = _)))))))))))))
   first | rfl | (exfalso; simp_all; done) | (exfalso; omega)
theorem e_disk (d : Disk) : Pure Tryz.prog 157 [many (diskC d), many (diskC d)] (bR true) := by
 refine pure_intro (N := 17) Tryz.func157 rfl rfl rfl rfl (fun H w => ?_)
 refine sq (rg (evl_e (e_box rfl rfl rfl rfl) (evl_e (e_box rfl rfl rfl rfl) (xs rfl rfl (nl (et (sq (sq (rg (xf ttOk rfl rfl (xl ttOk rfl rfl (xf ttOk rfl rfl (xl ttOk rfl rfl (evl_call (nm := 9) (cf rfl) (e_rows _) (rs_of rfl) rfl rfl rfl (xo (q_not rfl) rfl (nl (et (ev_cond_n rfl (fun h1 => ?_) (fun h1 => ?_)))))))))))))))))))
 ·try have d1 := of_decide_eq_false h1
  refine sq (rg (xs rfl rfl (nl (et (ev_ret (evr_then (ret_pure' ttOk rfl rfl (congrArg bR (?_ : _ = _)))))))))
  first | rfl | (exfalso; simp_all; done) | (exfalso; omega)
 ·try have d1 := of_decide_eq_true h1
  refine ev_skip (et (sq (sq (rg (xf ttOk rfl rfl (xl ttOk rfl rfl (xf ttOk rfl rfl (xl ttOk rfl rfl (evl_call (nm := 15) (cf rfl) (e_writes _) (rs_of rfl) rfl rfl rfl (xo (q_not rfl) rfl (nl (et (ev_cond_n rfl (fun h2 => ?_) (fun h2 => ?_))))))))))))))
  ·try have d2 := of_decide_eq_false h2
   refine sq (rg (xs rfl rfl (nl (et (ev_ret (evr_then (ret_pure' ttOk rfl rfl (congrArg bR (?_ : _ = _)))))))))
   first | rfl | (exfalso; simp_all; done) | (exfalso; omega)
  ·try have d2 := of_decide_eq_true h2
   refine ev_skip (et (sq (rg (xs rfl rfl (nl (et (ev_ret (ret_pure' ttOk rfl rfl (congrArg bR (?_ : _ = _))))))))))
   first | rfl | (exfalso; simp_all; done) | (exfalso; omega)
theorem e_two (t : Two) : Pure Tryz.prog 69 [many (twoC t), many (twoC t)] (bR true) := by
 refine pure_intro (N := 17) Tryz.func69 rfl rfl rfl rfl (fun H w => ?_)
 refine sq (rg (evl_e (e_box rfl rfl rfl rfl) (evl_e (e_box rfl rfl rfl rfl) (xs rfl rfl (nl (et (sq (sq (rg (xf ttOk rfl rfl (xl ttOk rfl rfl (xf ttOk rfl rfl (xl ttOk rfl rfl (evl_call (nm := 9) (cf rfl) (e_disk ⟨_, _⟩) (rs_of rfl) rfl rfl rfl (xo (q_not rfl) rfl (nl (et (ev_cond_n rfl (fun h1 => ?_) (fun h1 => ?_)))))))))))))))))))
 ·try have d1 := of_decide_eq_false h1
  refine sq (rg (xs rfl rfl (nl (et (ev_ret (evr_then (ret_pure' ttOk rfl rfl (congrArg bR (?_ : _ = _)))))))))
  first | rfl | (exfalso; simp_all; done) | (exfalso; omega)
 ·try have d1 := of_decide_eq_true h1
  refine ev_skip (et (sq (sq (rg (xf ttOk rfl rfl (xl ttOk rfl rfl (xf ttOk rfl rfl (xl ttOk rfl rfl (evl_call (nm := 15) (cf rfl) (e_disk ⟨_, _⟩) (rs_of rfl) rfl rfl rfl (xo (q_not rfl) rfl (nl (et (ev_cond_n rfl (fun h2 => ?_) (fun h2 => ?_))))))))))))))
  ·try have d2 := of_decide_eq_false h2
   refine sq (rg (xs rfl rfl (nl (et (ev_ret (evr_then (ret_pure' ttOk rfl rfl (congrArg bR (?_ : _ = _)))))))))
   first | rfl | (exfalso; simp_all; done) | (exfalso; omega)
  ·try have d2 := of_decide_eq_true h2
   refine ev_skip (et (sq (rg (xs rfl rfl (nl (et (ev_ret (ret_pure' ttOk rfl rfl (congrArg bR (?_ : _ = _))))))))))
   first | rfl | (exfalso; simp_all; done) | (exfalso; omega)
theorem e_mark (m : Mark) : Pure Tryz.prog 159 [many (markC m), many (markC m)] (bR true) := by
 refine pure_intro (N := 20) Tryz.func159 rfl rfl rfl rfl (fun H w => ?_)
 refine sq (rg (evl_e (e_box rfl rfl rfl rfl) (evl_e (e_box rfl rfl rfl rfl) (xs rfl rfl (nl (et (sq (sq (rg (xf ttOk rfl rfl (xl ttOk rfl rfl (xf ttOk rfl rfl (xl ttOk rfl rfl (xb ttOk rfl rfl (nl (et (ev_cond rfl (fun h1 => ?_) (fun h1 => ?_))))))))))))))))))
 ·try have d1 := of_decide_eq_true h1
  refine sq (rg (xs rfl rfl (nl (et (ev_ret (evr_then (ret_pure' ttOk rfl rfl (congrArg bR (?_ : _ = _)))))))))
  first | rfl | (exfalso; simp_all; done) | (exfalso; omega)
 ·try have d1 := of_decide_eq_false h1
  refine ev_skip (et (sq (sq (rg (xf ttOk rfl rfl (xl ttOk rfl rfl (xf ttOk rfl rfl (xl ttOk rfl rfl (xb ttOk rfl rfl (nl (et (ev_cond rfl (fun h2 => ?_) (fun h2 => ?_)))))))))))))
  ·try have d2 := of_decide_eq_true h2
   refine sq (rg (xs rfl rfl (nl (et (ev_ret (evr_then (ret_pure' ttOk rfl rfl (congrArg bR (?_ : _ = _)))))))))
   first | rfl | (exfalso; simp_all; done) | (exfalso; omega)
  ·try have d2 := of_decide_eq_false h2
   refine ev_skip (et (sq (sq (rg (xf ttOk rfl rfl (xl ttOk rfl rfl (xf ttOk rfl rfl (xl ttOk rfl rfl (xb ttOk rfl rfl (nl (et (ev_cond rfl (fun h3 => ?_) (fun h3 => ?_)))))))))))))
   ·try have d3 := of_decide_eq_true h3
    refine sq (rg (xs rfl rfl (nl (et (ev_ret (evr_then (ret_pure' ttOk rfl rfl (congrArg bR (?_ : _ = _)))))))))
    first | rfl | (exfalso; simp_all; done) | (exfalso; omega)
   ·try have d3 := of_decide_eq_false h3
    refine ev_skip (et (sq (rg (xs rfl rfl (nl (et (ev_ret (ret_pure' ttOk rfl rfl (congrArg bR (?_ : _ = _))))))))))
    first | rfl | (exfalso; simp_all; done) | (exfalso; omega)
theorem e_marks (l : List Mark) : Pure Tryz.prog 72 [one (marks l), one (marks l)] (bR true) := by
 refine pure_intro (N := 27) Tryz.func72 rfl rfl rfl rfl (fun H w => ?_)
 refine ev_lenm (t := 0) rfl (fun hL => ?_)
 refine ev_lenm (t := 1) rfl (fun hM => ?_)
 refine sq (rg (xs rfl rfl (nl (et (sq (sq (rg (xm rfl rfl (xo (q_len_map ttOk rfl rfl) rfl (xm rfl rfl (xo (q_len_map ttOk rfl rfl) rfl (xb ttOk rfl rfl (nl (et (ev_cond rfl (fun h1 => ?_) (fun h1 => ?_))))))))))))))))
 ·try have d1 := of_decide_eq_true h1
  refine sq (rg (xs rfl rfl (nl (et (ev_ret (evr_then (ret_pure' ttOk rfl rfl (congrArg bR (?_ : _ = _)))))))))
  first | rfl | (exfalso; simp_all; done) | (exfalso; omega)
 ·try have d1 := of_decide_eq_false h1
  refine ev_skip (et (sq (sq (rg (xs rfl rfl (nl (et (ev_blk (ev_loop (fun k : Nat => (⟨[(5, iV k), (0, cV (marks l)), (1, cV (marks l))], [], [], []⟩ : St)) (fun k => k ≤ l.length) (fun k => l.length - k) 0 [] (by simp) lei ?_)))))))))
  intro k hp
  have p0 := hp
  show Ev _ _ _ _ (⟨[(5, iV k), (0, cV (marks l)), (1, cV (marks l))], [], [], []⟩ : St)
  refine sq (sq (rg (xm rfl rfl (xm rfl rfl (xo (q_len_map ttOk rfl rfl) rfl (xb ttOk rfl rfl (nl (et (ev_cond rfl (fun h2 => ?_) (fun h2 => ?_))))))))))
  ·try have d2 := of_decide_eq_true h2
   refine ev_skip (et (sq (ev_blk (sq (ev_drawq [] mo (rk0 0 rfl (q_move rfl) rfl (rk0 1 rfl (q_move rfl) rfl (rk0 2 rfl (q_ix_map ttOk rfl rfl rfl rfl om) rfl (rk0 3 rfl (q_load ttOk rfl) rfl (rk0 4 rfl (q_move rfl) rfl (rk0 5 rfl (q_move rfl) rfl (rk0 6 rfl (q_ix_map ttOk rfl rfl rfl rfl om) rfl (rk0 7 rfl (q_load ttOk rfl) rfl (rdk_one 8 kr (rdo_call (nm := 25) rfl trivial (cf rfl) (e_mark ⟨_, _, _⟩) (rs_of rfl) rfl rfl rfl (rk0 9 rfl (q_not rfl) rfl (rdk_endq kr (et (ev_cond_n rfl (fun h3 => ?_) (fun h3 => ?_))))))))))))))))))))
   ·try have d3 := of_decide_eq_false h3
    refine sq (rg (xs rfl rfl (nl (et (ev_ret (evr_blk (evr_then (evr_then (evr_blk (evr_then (ret_pure' ttOk rfl rfl (congrArg bR (?_ : _ = _)))))))))))))
    first | rfl | (exfalso; simp_all; done) | (exfalso; omega)
   ·try have d3 := of_decide_eq_true h3
    refine ev_skip (eb (et (rg (xm rfl rfl (xa rfl rfl rfl om rfl (xs rfl rfl (nl (eve_round (k + 1) [] ?hp lei))))))))
    case hp => exact ⟨by omega, by omega⟩
  ·try have d2 := of_decide_eq_false h2
   refine ev_exit (evx_then (evx_then (evx_hit (et (sq (rg (xs rfl rfl (nl (et (ev_ret (ret_pure' ttOk rfl rfl (congrArg bR (?_ : _ = _)))))))))))))
   first | rfl | (exfalso; simp_all; done) | (exfalso; omega)
theorem e_head (h : Head) : Pure Tryz.prog 70 [many (headC h), many (headC h)] (bR true) := by
 refine pure_intro (N := 26) Tryz.func70 rfl rfl rfl rfl (fun H w => ?_)
 refine sq (rg (evl_e (e_box rfl rfl rfl rfl) (evl_e (e_box rfl rfl rfl rfl) (xs rfl rfl (nl (et (sq (sq (rg (xf ttOk rfl rfl (xl ttOk rfl rfl (xf ttOk rfl rfl (xl ttOk rfl rfl (xb ttOk rfl rfl (nl (et (ev_cond rfl (fun h1 => ?_) (fun h1 => ?_))))))))))))))))))
 ·try have d1 := of_decide_eq_true h1
  refine sq (rg (xs rfl rfl (nl (et (ev_ret (evr_then (ret_pure' ttOk rfl rfl (congrArg bR (?_ : _ = _)))))))))
  first | rfl | (exfalso; simp_all; done) | (exfalso; omega)
 ·try have d1 := of_decide_eq_false h1
  refine ev_skip (et (sq (sq (rg (xf ttOk rfl rfl (xl ttOk rfl rfl (xf ttOk rfl rfl (xl ttOk rfl rfl (xb ttOk rfl rfl (nl (et (ev_cond rfl (fun h2 => ?_) (fun h2 => ?_)))))))))))))
  ·try have d2 := of_decide_eq_true h2
   refine sq (rg (xs rfl rfl (nl (et (ev_ret (evr_then (ret_pure' ttOk rfl rfl (congrArg bR (?_ : _ = _)))))))))
   first | rfl | (exfalso; simp_all; done) | (exfalso; omega)
  ·try have d2 := of_decide_eq_false h2
   refine ev_skip (et (sq (sq (rg (xf ttOk rfl rfl (xl ttOk rfl rfl (xf ttOk rfl rfl (xl ttOk rfl rfl (xb ttOk rfl rfl (nl (et (ev_cond rfl (fun h3 => ?_) (fun h3 => ?_)))))))))))))
   ·try have d3 := of_decide_eq_true h3
    refine sq (rg (xs rfl rfl (nl (et (ev_ret (evr_then (ret_pure' ttOk rfl rfl (congrArg bR (?_ : _ = _)))))))))
    first | rfl | (exfalso; simp_all; done) | (exfalso; omega)
   ·try have d3 := of_decide_eq_false h3
    refine ev_skip (et (sq (sq (rg (xf ttOk rfl rfl (xl ttOk rfl rfl (xf ttOk rfl rfl (xl ttOk rfl rfl (evl_call (nm := 24) (cf rfl) (e_marks _) (rs_of rfl) rfl rfl rfl (xo (q_not rfl) rfl (nl (et (ev_cond_n rfl (fun h4 => ?_) (fun h4 => ?_))))))))))))))
    ·try have d4 := of_decide_eq_false h4
     refine sq (rg (xs rfl rfl (nl (et (ev_ret (evr_then (ret_pure' ttOk rfl rfl (congrArg bR (?_ : _ = _)))))))))
     first | rfl | (exfalso; simp_all; done) | (exfalso; omega)
    ·try have d4 := of_decide_eq_true h4
     refine ev_skip (et (sq (rg (xs rfl rfl (nl (et (ev_ret (ret_pure' ttOk rfl rfl (congrArg bR (?_ : _ = _))))))))))
     first | rfl | (exfalso; simp_all; done) | (exfalso; omega)
end Go.Proofs.YtinmcdcmidlgpaaGreatDoor
