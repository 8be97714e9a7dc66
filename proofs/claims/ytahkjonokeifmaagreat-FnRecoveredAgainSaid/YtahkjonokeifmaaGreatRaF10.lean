/- Walks of functions of the program, printed by a program of the prover. -/
import Derived.Test.YtahkjonokeifmaaGreatRaF9
namespace Go.Proofs.YtahkjonokeifmaaGreat
open Go.ChangeShapes Go.WideShapes Go.ChangeAt Go.RowKit
set_option linter.unusedVariables false
set_option linter.unusedSimpArgs false
set_option maxHeartbeats 1000000
set_option maxRecDepth 100000
attribute [local irreducible] EvL Ev EvE Quiet Eff Pure RDk RDb RDo
structure Head where
 num : Int
 base : Int
 time : Int
 seen : List Mark
@[reducible] def headC (h : Head) : List C := [iC h.num, iC h.base, iC h.time, marks h.seen]
@[reducible] def marksR (l : List Mark) : RC := .s 76 3 (l.map markC)
@[reducible] def headR (h : Head) : List RC := [.v (.int .i64 h.num), .v (.int .i64 h.base), .v (.int .i64 h.time), marksR h.seen]
def headOk (h : Head) : Bool := inB h.base 0 2000 && (inB h.num 0 h.base && (timeOk h.time && ((decide (h.base > 0) || decide (h.time = 0)) && (seenOk h.seen && decide (lastF h.seen = h.base)))))
theorem c_HeadOk (h : Head) : Pure Tryz.prog 63 [many (headC h)] (bR (headOk h)) := by
 refine pure_intro (N := 41) Tryz.func63 rfl rfl rfl rfl (fun H w => ?_)
 refine sq (rg (evl_e (e_box rfl rfl rfl rfl) (xs rfl rfl (nl (et (sq (ev_drawq [] mo (rk0 0 rfl (q_fieldAddr ttOk rfl) rfl (rk0 1 rfl (q_load ttOk rfl) rfl (rdk_one 2 kr (rdo_call (nm := 5) rfl trivial (cf rfl) (c_l1In _ _ _) (rs_of rfl) rfl rfl rfl (rk0 3 rfl (q_move rfl) rfl (rdk_part (t := 6) rfl (fun h1 => ?_) (fun h1 => ?_))))))))))))))
 ·refine rkt 4 rfl rfl rfl h1 (q_fieldAddr ttOk rfl) rfl (rkt 5 rfl rfl rfl h1 (q_load ttOk rfl) rfl (rkt 6 rfl rfl rfl h1 (q_fieldAddr ttOk rfl) rfl (rkt 7 rfl rfl rfl h1 (q_load ttOk rfl) rfl (rdk_one 8 kr (rdo_call (nm := 11) rfl ⟨_, _, rfl, rfl, h1⟩ (cf rfl) (c_l1In _ _ _) (rs_of rfl) rfl rfl rfl (rk0 9 rfl (q_pick_t rfl h1 rfl) rfl (rk0 10 rfl (q_move rfl) rfl (rdk_part (t := 13) rfl (fun h2 => ?_) (fun h2 => ?_)))))))))
  ·refine rkt 11 rfl rfl rfl h2 (q_fieldAddr ttOk rfl) rfl (rkt 12 rfl rfl rfl h2 (q_load ttOk rfl) rfl (rdk_one 13 kr (rdo_call (nm := 16) rfl ⟨_, _, rfl, rfl, h2⟩ (cf rfl) (c_TimeOk _) (rs_of rfl) rfl rfl rfl (rk0 14 rfl (q_pick_t rfl h2 rfl) rfl (rk0 15 rfl (q_move rfl) rfl (rdk_part (t := 18) rfl (fun h3 => ?_) (fun h3 => ?_)))))))
   ·refine rkt 16 rfl rfl rfl h3 (q_fieldAddr ttOk rfl) rfl (rkt 17 rfl rfl rfl h3 (q_load ttOk rfl) rfl (rkt 18 rfl rfl rfl h3 (q_bin ttOk rfl) rfl (rkt 19 rfl rfl rfl h3 (q_move rfl) rfl (rdk_part (t := 22) rfl (fun h4 => ?_) (fun h4 => ?_)))))
    ·refine rks 20 rfl rfl rfl h4 rfl (rks 21 rfl rfl rfl h4 rfl (rks 22 rfl rfl rfl h4 rfl (rkt 23 rfl rfl rfl h3 (q_pick_t rfl h4 rfl) rfl (rk0 24 rfl (q_pick_t rfl h3 rfl) rfl (rk0 25 rfl (q_move rfl) rfl (rkt 26 rfl rfl rfl rfl (q_fieldAddr ttOk rfl) rfl (rkt 27 rfl rfl rfl rfl (q_load ttOk rfl) rfl (rdk_one 28 kr (rdo_call (nm := 31) rfl ⟨_, _, rfl, rfl, rfl⟩ (cf rfl) (c_SeenOk _) (rs_of rfl) rfl rfl rfl (rk0 29 rfl (q_pick_t rfl rfl rfl) rfl (rk0 30 rfl (q_move rfl) rfl (rdk_part (t := 33) rfl (fun h5 => ?_) (fun h5 => ?_)))))))))))))
     ·refine rkt 31 rfl rfl rfl h5 (q_fieldAddr ttOk rfl) rfl (rkt 32 rfl rfl rfl h5 (q_load ttOk rfl) rfl (rkt 34 rfl rfl rfl h5 (q_fieldAddr ttOk rfl) rfl (rkt 35 rfl rfl rfl h5 (q_load ttOk rfl) rfl (rdk_one 33 kr (rdo_call (nm := 36) rfl ⟨_, _, rfl, rfl, h5⟩ (cf rfl) (c_LastSeen _) (rs_of rfl) rfl rfl rfl (rkt 36 rfl rfl rfl h5 (q_bin ttOk rfl) rfl (rk0 37 rfl (q_pick_t rfl h5 rfl) rfl (rk0 38 rfl (q_assign rfl) rfl (rdk_endq kr (et (ev_ret (ret_pure' ttOk rfl rfl (congrArg bR (?_ : _ = _))))))))))))))
      simp_all [headOk] <;> (intros; omega)
     ·refine rks 31 rfl rfl rfl h5 rfl (rks 32 rfl rfl rfl h5 rfl (rks 33 rfl rfl rfl h5 rfl (rks 34 rfl rfl rfl h5 rfl (rks 35 rfl rfl rfl h5 rfl (rks 36 rfl rfl rfl h5 rfl (rk0 37 rfl (q_pick_f rfl h5 rfl) rfl (rk0 38 rfl (q_assign rfl) rfl (rdk_endq kr (et (ev_ret (ret_pure' ttOk rfl rfl (congrArg bR (?_ : _ = _)))))))))))))
      simp_all [headOk] <;> (intros; omega)
    ·refine rkt 20 rfl rfl rfl h4 (q_fieldAddr ttOk rfl) rfl (rkt 21 rfl rfl rfl h4 (q_load ttOk rfl) rfl (rkt 22 rfl rfl rfl h4 (q_bin ttOk rfl) rfl (rkt 23 rfl rfl rfl h3 (q_pick_f rfl h4 rfl) rfl (rk0 24 rfl (q_pick_t rfl h3 rfl) rfl (rk0 25 rfl (q_move rfl) rfl (rdk_part (t := 28) rfl (fun h6 => ?_) (fun h6 => ?_)))))))
     ·refine rkt 26 rfl rfl rfl h6 (q_fieldAddr ttOk rfl) rfl (rkt 27 rfl rfl rfl h6 (q_load ttOk rfl) rfl (rdk_one 28 kr (rdo_call (nm := 31) rfl ⟨_, _, rfl, rfl, h6⟩ (cf rfl) (c_SeenOk _) (rs_of rfl) rfl rfl rfl (rk0 29 rfl (q_pick_t rfl h6 rfl) rfl (rk0 30 rfl (q_move rfl) rfl (rdk_part (t := 33) rfl (fun h7 => ?_) (fun h7 => ?_)))))))
      ·refine rkt 31 rfl rfl rfl h7 (q_fieldAddr ttOk rfl) rfl (rkt 32 rfl rfl rfl h7 (q_load ttOk rfl) rfl (rkt 34 rfl rfl rfl h7 (q_fieldAddr ttOk rfl) rfl (rkt 35 rfl rfl rfl h7 (q_load ttOk rfl) rfl (rdk_one 33 kr (rdo_call (nm := 36) rfl ⟨_, _, rfl, rfl, h7⟩ (cf rfl) (c_LastSeen _) (rs_of rfl) rfl rfl rfl (rkt 36 rfl rfl rfl h7 (q_bin ttOk rfl) rfl (rk0 37 rfl (q_pick_t rfl h7 rfl) rfl (rk0 38 rfl (q_assign rfl) rfl (rdk_endq kr (et (ev_ret (ret_pure' ttOk rfl rfl (congrArg bR (?_ : _ = _))))))))))))))
       simp_all [headOk] <;> (intros; omega)
      ·refine rks 31 rfl rfl rfl h7 rfl (rks 32 rfl rfl rfl h7 rfl (rks 33 rfl rfl rfl h7 rfl (rks 34 rfl rfl rfl h7 rfl (rks 35 rfl rfl rfl h7 rfl (rks 36 rfl rfl rfl h7 rfl (rk0 37 rfl (q_pick_f rfl h7 rfl) rfl (rk0 38 rfl (q_assign rfl) rfl (rdk_endq kr (et (ev_ret (ret_pure' ttOk rfl rfl (congrArg bR (?_ : _ = _)))))))))))))
       simp_all [headOk] <;> (intros; omega)
     ·refine rks 26 rfl rfl rfl h6 rfl (rks 27 rfl rfl rfl h6 rfl (rks 28 rfl rfl rfl h6 rfl (rk0 29 rfl (q_pick_f rfl h6 rfl) rfl (rk0 30 rfl (q_move rfl) rfl (rks 31 rfl rfl rfl rfl rfl (rks 32 rfl rfl rfl rfl rfl (rks 33 rfl rfl rfl rfl rfl (rks 34 rfl rfl rfl rfl rfl (rks 35 rfl rfl rfl rfl rfl (rks 36 rfl rfl rfl rfl rfl (rk0 37 rfl (q_pick_f rfl rfl rfl) rfl (rk0 38 rfl (q_assign rfl) rfl (rdk_endq kr (et (ev_ret (ret_pure' ttOk rfl rfl (congrArg bR (?_ : _ = _))))))))))))))))))
      simp_all [headOk] <;> (intros; omega)
   ·refine rks 16 rfl rfl rfl h3 rfl (rks 17 rfl rfl rfl h3 rfl (rks 18 rfl rfl rfl h3 rfl (rks 19 rfl rfl rfl h3 rfl (rdk_skip 20 rfl kr ⟨_, rfl, .inr rfl⟩ rfl (rdk_skip 21 rfl kr ⟨_, rfl, .inr rfl⟩ rfl (rdk_skip 22 rfl kr ⟨_, rfl, .inr rfl⟩ rfl (rks 23 rfl rfl rfl h3 rfl (rk0 24 rfl (q_pick_f rfl h3 rfl) rfl (rk0 25 rfl (q_move rfl) rfl (rks 26 rfl rfl rfl rfl rfl (rks 27 rfl rfl rfl rfl rfl (rks 28 rfl rfl rfl rfl rfl (rk0 29 rfl (q_pick_f rfl rfl rfl) rfl (rk0 30 rfl (q_move rfl) rfl (rks 31 rfl rfl rfl rfl rfl (rks 32 rfl rfl rfl rfl rfl (rks 33 rfl rfl rfl rfl rfl (rks 34 rfl rfl rfl rfl rfl (rks 35 rfl rfl rfl rfl rfl (rks 36 rfl rfl rfl rfl rfl (rk0 37 rfl (q_pick_f rfl rfl rfl) rfl (rk0 38 rfl (q_assign rfl) rfl (rdk_endq kr (et (ev_ret (ret_pure' ttOk rfl rfl (congrArg bR (?_ : _ = _))))))))))))))))))))))))))))
    simp_all [headOk] <;> (intros; omega)
  ·refine rks 11 rfl rfl rfl h2 rfl (rks 12 rfl rfl rfl h2 rfl (rks 13 rfl rfl rfl h2 rfl (rk0 14 rfl (q_pick_f rfl h2 rfl) rfl (rk0 15 rfl (q_move rfl) rfl (rks 16 rfl rfl rfl rfl rfl (rks 17 rfl rfl rfl rfl rfl (rks 18 rfl rfl rfl rfl rfl (rks 19 rfl rfl rfl rfl rfl (rdk_skip 20 rfl kr ⟨_, rfl, .inr rfl⟩ rfl (rdk_skip 21 rfl kr ⟨_, rfl, .inr rfl⟩ rfl (rdk_skip 22 rfl kr ⟨_, rfl, .inr rfl⟩ rfl (rks 23 rfl rfl rfl rfl rfl (rk0 24 rfl (q_pick_f rfl rfl rfl) rfl (rk0 25 rfl (q_move rfl) rfl (rks 26 rfl rfl rfl rfl rfl (rks 27 rfl rfl rfl rfl rfl (rks 28 rfl rfl rfl rfl rfl (rk0 29 rfl (q_pick_f rfl rfl rfl) rfl (rk0 30 rfl (q_move rfl) rfl (rks 31 rfl rfl rfl rfl rfl (rks 32 rfl rfl rfl rfl rfl (rks 33 rfl rfl rfl rfl rfl (rks 34 rfl rfl rfl rfl rfl (rks 35 rfl rfl rfl rfl rfl (rks 36 rfl rfl rfl rfl rfl (rk0 37 rfl (q_pick_f rfl rfl rfl) rfl (rk0 38 rfl (q_assign rfl) rfl (rdk_endq kr (et (ev_ret (ret_pure' ttOk rfl rfl (congrArg bR (?_ : _ = _)))))))))))))))))))))))))))))))))
   simp_all [headOk] <;> (intros; omega)
 ·refine rks 4 rfl rfl rfl h1 rfl (rks 5 rfl rfl rfl h1 rfl (rks 6 rfl rfl rfl h1 rfl (rks 7 rfl rfl rfl h1 rfl (rks 8 rfl rfl rfl h1 rfl (rk0 9 rfl (q_pick_f rfl h1 rfl) rfl (rk0 10 rfl (q_move rfl) rfl (rks 11 rfl rfl rfl rfl rfl (rks 12 rfl rfl rfl rfl rfl (rks 13 rfl rfl rfl rfl rfl (rk0 14 rfl (q_pick_f rfl rfl rfl) rfl (rk0 15 rfl (q_move rfl) rfl (rks 16 rfl rfl rfl rfl rfl (rks 17 rfl rfl rfl rfl rfl (rks 18 rfl rfl rfl rfl rfl (rks 19 rfl rfl rfl rfl rfl (rdk_skip 20 rfl kr ⟨_, rfl, .inr rfl⟩ rfl (rdk_skip 21 rfl kr ⟨_, rfl, .inr rfl⟩ rfl (rdk_skip 22 rfl kr ⟨_, rfl, .inr rfl⟩ rfl (rks 23 rfl rfl rfl rfl rfl (rk0 24 rfl (q_pick_f rfl rfl rfl) rfl (rk0 25 rfl (q_move rfl) rfl (rks 26 rfl rfl rfl rfl rfl (rks 27 rfl rfl rfl rfl rfl (rks 28 rfl rfl rfl rfl rfl (rk0 29 rfl (q_pick_f rfl rfl rfl) rfl (rk0 30 rfl (q_move rfl) rfl (rks 31 rfl rfl rfl rfl rfl (rks 32 rfl rfl rfl rfl rfl (rks 33 rfl rfl rfl rfl rfl (rks 34 rfl rfl rfl rfl rfl (rks 35 rfl rfl rfl rfl rfl (rks 36 rfl rfl rfl rfl rfl (rk0 37 rfl (q_pick_f rfl rfl rfl) rfl (rk0 38 rfl (q_assign rfl) rfl (rdk_endq kr (et (ev_ret (ret_pure' ttOk rfl rfl (congrArg bR (?_ : _ = _))))))))))))))))))))))))))))))))))))))))
  simp_all [headOk] <;> (intros; omega)
theorem c_HeadOk' (h : Head) : Pure Tryz.prog 15 [many (headC h)] (bR (headOk h)) := by
 refine pure_intro (N := 41) Tryz.func15 rfl rfl rfl rfl (fun H w => ?_)
 refine sq (rg (evl_e (e_box rfl rfl rfl rfl) (xs rfl rfl (nl (et (sq (ev_drawq [] mo (rk0 0 rfl (q_fieldAddr ttOk rfl) rfl (rk0 1 rfl (q_load ttOk rfl) rfl (rdk_one 2 kr (rdo_call (nm := 5) rfl trivial (cf rfl) (c_between _ _ _) (rs_of rfl) rfl rfl rfl (rk0 3 rfl (q_move rfl) rfl (rdk_part (t := 6) rfl (fun h1 => ?_) (fun h1 => ?_))))))))))))))
 ·refine rkt 4 rfl rfl rfl h1 (q_fieldAddr ttOk rfl) rfl (rkt 5 rfl rfl rfl h1 (q_load ttOk rfl) rfl (rkt 6 rfl rfl rfl h1 (q_fieldAddr ttOk rfl) rfl (rkt 7 rfl rfl rfl h1 (q_load ttOk rfl) rfl (rdk_one 8 kr (rdo_call (nm := 11) rfl ⟨_, _, rfl, rfl, h1⟩ (cf rfl) (c_between _ _ _) (rs_of rfl) rfl rfl rfl (rk0 9 rfl (q_pick_t rfl h1 rfl) rfl (rk0 10 rfl (q_move rfl) rfl (rdk_part (t := 13) rfl (fun h2 => ?_) (fun h2 => ?_)))))))))
  ·refine rkt 11 rfl rfl rfl h2 (q_fieldAddr ttOk rfl) rfl (rkt 12 rfl rfl rfl h2 (q_load ttOk rfl) rfl (rdk_one 13 kr (rdo_call (nm := 16) rfl ⟨_, _, rfl, rfl, h2⟩ (cf rfl) (c_TimeOk' _) (rs_of rfl) rfl rfl rfl (rk0 14 rfl (q_pick_t rfl h2 rfl) rfl (rk0 15 rfl (q_move rfl) rfl (rdk_part (t := 18) rfl (fun h3 => ?_) (fun h3 => ?_)))))))
   ·refine rkt 16 rfl rfl rfl h3 (q_fieldAddr ttOk rfl) rfl (rkt 17 rfl rfl rfl h3 (q_load ttOk rfl) rfl (rkt 18 rfl rfl rfl h3 (q_bin ttOk rfl) rfl (rkt 19 rfl rfl rfl h3 (q_move rfl) rfl (rdk_part (t := 22) rfl (fun h4 => ?_) (fun h4 => ?_)))))
    ·refine rks 20 rfl rfl rfl h4 rfl (rks 21 rfl rfl rfl h4 rfl (rks 22 rfl rfl rfl h4 rfl (rkt 23 rfl rfl rfl h3 (q_pick_t rfl h4 rfl) rfl (rk0 24 rfl (q_pick_t rfl h3 rfl) rfl (rk0 25 rfl (q_move rfl) rfl (rkt 26 rfl rfl rfl rfl (q_fieldAddr ttOk rfl) rfl (rkt 27 rfl rfl rfl rfl (q_load ttOk rfl) rfl (rdk_one 28 kr (rdo_call (nm := 31) rfl ⟨_, _, rfl, rfl, rfl⟩ (cf rfl) (c_SeenOk' _) (rs_of rfl) rfl rfl rfl (rk0 29 rfl (q_pick_t rfl rfl rfl) rfl (rk0 30 rfl (q_move rfl) rfl (rdk_part (t := 33) rfl (fun h5 => ?_) (fun h5 => ?_)))))))))))))
     ·refine rkt 31 rfl rfl rfl h5 (q_fieldAddr ttOk rfl) rfl (rkt 32 rfl rfl rfl h5 (q_load ttOk rfl) rfl (rkt 34 rfl rfl rfl h5 (q_fieldAddr ttOk rfl) rfl (rkt 35 rfl rfl rfl h5 (q_load ttOk rfl) rfl (rdk_one 33 kr (rdo_call (nm := 36) rfl ⟨_, _, rfl, rfl, h5⟩ (cf rfl) (c_lastSeen _) (rs_of rfl) rfl rfl rfl (rkt 36 rfl rfl rfl h5 (q_bin ttOk rfl) rfl (rk0 37 rfl (q_pick_t rfl h5 rfl) rfl (rk0 38 rfl (q_assign rfl) rfl (rdk_endq kr (et (ev_ret (ret_pure' ttOk rfl rfl (congrArg bR (?_ : _ = _))))))))))))))
      simp_all [headOk] <;> (intros; omega)
     ·refine rks 31 rfl rfl rfl h5 rfl (rks 32 rfl rfl rfl h5 rfl (rks 33 rfl rfl rfl h5 rfl (rks 34 rfl rfl rfl h5 rfl (rks 35 rfl rfl rfl h5 rfl (rks 36 rfl rfl rfl h5 rfl (rk0 37 rfl (q_pick_f rfl h5 rfl) rfl (rk0 38 rfl (q_assign rfl) rfl (rdk_endq kr (et (ev_ret (ret_pure' ttOk rfl rfl (congrArg bR (?_ : _ = _)))))))))))))
      simp_all [headOk] <;> (intros; omega)
    ·refine rkt 20 rfl rfl rfl h4 (q_fieldAddr ttOk rfl) rfl (rkt 21 rfl rfl rfl h4 (q_load ttOk rfl) rfl (rkt 22 rfl rfl rfl h4 (q_bin ttOk rfl) rfl (rkt 23 rfl rfl rfl h3 (q_pick_f rfl h4 rfl) rfl (rk0 24 rfl (q_pick_t rfl h3 rfl) rfl (rk0 25 rfl (q_move rfl) rfl (rdk_part (t := 28) rfl (fun h6 => ?_) (fun h6 => ?_)))))))
     ·refine rkt 26 rfl rfl rfl h6 (q_fieldAddr ttOk rfl) rfl (rkt 27 rfl rfl rfl h6 (q_load ttOk rfl) rfl (rdk_one 28 kr (rdo_call (nm := 31) rfl ⟨_, _, rfl, rfl, h6⟩ (cf rfl) (c_SeenOk' _) (rs_of rfl) rfl rfl rfl (rk0 29 rfl (q_pick_t rfl h6 rfl) rfl (rk0 30 rfl (q_move rfl) rfl (rdk_part (t := 33) rfl (fun h7 => ?_) (fun h7 => ?_)))))))
      ·refine rkt 31 rfl rfl rfl h7 (q_fieldAddr ttOk rfl) rfl (rkt 32 rfl rfl rfl h7 (q_load ttOk rfl) rfl (rkt 34 rfl rfl rfl h7 (q_fieldAddr ttOk rfl) rfl (rkt 35 rfl rfl rfl h7 (q_load ttOk rfl) rfl (rdk_one 33 kr (rdo_call (nm := 36) rfl ⟨_, _, rfl, rfl, h7⟩ (cf rfl) (c_lastSeen _) (rs_of rfl) rfl rfl rfl (rkt 36 rfl rfl rfl h7 (q_bin ttOk rfl) rfl (rk0 37 rfl (q_pick_t rfl h7 rfl) rfl (rk0 38 rfl (q_assign rfl) rfl (rdk_endq kr (et (ev_ret (ret_pure' ttOk rfl rfl (congrArg bR (?_ : _ = _))))))))))))))
       simp_all [headOk] <;> (intros; omega)
      ·refine rks 31 rfl rfl rfl h7 rfl (rks 32 rfl rfl rfl h7 rfl (rks 33 rfl rfl rfl h7 rfl (rks 34 rfl rfl rfl h7 rfl (rks 35 rfl rfl rfl h7 rfl (rks 36 rfl rfl rfl h7 rfl (rk0 37 rfl (q_pick_f rfl h7 rfl) rfl (rk0 38 rfl (q_assign rfl) rfl (rdk_endq kr (et (ev_ret (ret_pure' ttOk rfl rfl (congrArg bR (?_ : _ = _)))))))))))))
       simp_all [headOk] <;> (intros; omega)
     ·refine rks 26 rfl rfl rfl h6 rfl (rks 27 rfl rfl rfl h6 rfl (rks 28 rfl rfl rfl h6 rfl (rk0 29 rfl (q_pick_f rfl h6 rfl) rfl (rk0 30 rfl (q_move rfl) rfl (rks 31 rfl rfl rfl rfl rfl (rks 32 rfl rfl rfl rfl rfl (rks 33 rfl rfl rfl rfl rfl (rks 34 rfl rfl rfl rfl rfl (rks 35 rfl rfl rfl rfl rfl (rks 36 rfl rfl rfl rfl rfl (rk0 37 rfl (q_pick_f rfl rfl rfl) rfl (rk0 38 rfl (q_assign rfl) rfl (rdk_endq kr (et (ev_ret (ret_pure' ttOk rfl rfl (congrArg bR (?_ : _ = _))))))))))))))))))
      simp_all [headOk] <;> (intros; omega)
   ·refine rks 16 rfl rfl rfl h3 rfl (rks 17 rfl rfl rfl h3 rfl (rks 18 rfl rfl rfl h3 rfl (rks 19 rfl rfl rfl h3 rfl (rdk_skip 20 rfl kr ⟨_, rfl, .inr rfl⟩ rfl (rdk_skip 21 rfl kr ⟨_, rfl, .inr rfl⟩ rfl (rdk_skip 22 rfl kr ⟨_, rfl, .inr rfl⟩ rfl (rks 23 rfl rfl rfl h3 rfl (rk0 24 rfl (q_pick_f rfl h3 rfl) rfl (rk0 25 rfl (q_move rfl) rfl (rks 26 rfl rfl rfl rfl rfl (rks 27 rfl rfl rfl rfl rfl (rks 28 rfl rfl rfl rfl rfl (rk0 29 rfl (q_pick_f rfl rfl rfl) rfl (rk0 30 rfl (q_move rfl) rfl (rks 31 rfl rfl rfl rfl rfl (rks 32 rfl rfl rfl rfl rfl (rks 33 rfl rfl rfl rfl rfl (rks 34 rfl rfl rfl rfl rfl (rks 35 rfl rfl rfl rfl rfl (rks 36 rfl rfl rfl rfl rfl (rk0 37 rfl (q_pick_f rfl rfl rfl) rfl (rk0 38 rfl (q_assign rfl) rfl (rdk_endq kr (et (ev_ret (ret_pure' ttOk rfl rfl (congrArg bR (?_ : _ = _))))))))))))))))))))))))))))
    simp_all [headOk] <;> (intros; omega)
  ·refine rks 11 rfl rfl rfl h2 rfl (rks 12 rfl rfl rfl h2 rfl (rks 13 rfl rfl rfl h2 rfl (rk0 14 rfl (q_pick_f rfl h2 rfl) rfl (rk0 15 rfl (q_move rfl) rfl (rks 16 rfl rfl rfl rfl rfl (rks 17 rfl rfl rfl rfl rfl (rks 18 rfl rfl rfl rfl rfl (rks 19 rfl rfl rfl rfl rfl (rdk_skip 20 rfl kr ⟨_, rfl, .inr rfl⟩ rfl (rdk_skip 21 rfl kr ⟨_, rfl, .inr rfl⟩ rfl (rdk_skip 22 rfl kr ⟨_, rfl, .inr rfl⟩ rfl (rks 23 rfl rfl rfl rfl rfl (rk0 24 rfl (q_pick_f rfl rfl rfl) rfl (rk0 25 rfl (q_move rfl) rfl (rks 26 rfl rfl rfl rfl rfl (rks 27 rfl rfl rfl rfl rfl (rks 28 rfl rfl rfl rfl rfl (rk0 29 rfl (q_pick_f rfl rfl rfl) rfl (rk0 30 rfl (q_move rfl) rfl (rks 31 rfl rfl rfl rfl rfl (rks 32 rfl rfl rfl rfl rfl (rks 33 rfl rfl rfl rfl rfl (rks 34 rfl rfl rfl rfl rfl (rks 35 rfl rfl rfl rfl rfl (rks 36 rfl rfl rfl rfl rfl (rk0 37 rfl (q_pick_f rfl rfl rfl) rfl (rk0 38 rfl (q_assign rfl) rfl (rdk_endq kr (et (ev_ret (ret_pure' ttOk rfl rfl (congrArg bR (?_ : _ = _)))))))))))))))))))))))))))))))))
   simp_all [headOk] <;> (intros; omega)
 ·refine rks 4 rfl rfl rfl h1 rfl (rks 5 rfl rfl rfl h1 rfl (rks 6 rfl rfl rfl h1 rfl (rks 7 rfl rfl rfl h1 rfl (rks 8 rfl rfl rfl h1 rfl (rk0 9 rfl (q_pick_f rfl h1 rfl) rfl (rk0 10 rfl (q_move rfl) rfl (rks 11 rfl rfl rfl rfl rfl (rks 12 rfl rfl rfl rfl rfl (rks 13 rfl rfl rfl rfl rfl (rk0 14 rfl (q_pick_f rfl rfl rfl) rfl (rk0 15 rfl (q_move rfl) rfl (rks 16 rfl rfl rfl rfl rfl (rks 17 rfl rfl rfl rfl rfl (rks 18 rfl rfl rfl rfl rfl (rks 19 rfl rfl rfl rfl rfl (rdk_skip 20 rfl kr ⟨_, rfl, .inr rfl⟩ rfl (rdk_skip 21 rfl kr ⟨_, rfl, .inr rfl⟩ rfl (rdk_skip 22 rfl kr ⟨_, rfl, .inr rfl⟩ rfl (rks 23 rfl rfl rfl rfl rfl (rk0 24 rfl (q_pick_f rfl rfl rfl) rfl (rk0 25 rfl (q_move rfl) rfl (rks 26 rfl rfl rfl rfl rfl (rks 27 rfl rfl rfl rfl rfl (rks 28 rfl rfl rfl rfl rfl (rk0 29 rfl (q_pick_f rfl rfl rfl) rfl (rk0 30 rfl (q_move rfl) rfl (rks 31 rfl rfl rfl rfl rfl (rks 32 rfl rfl rfl rfl rfl (rks 33 rfl rfl rfl rfl rfl (rks 34 rfl rfl rfl rfl rfl (rks 35 rfl rfl rfl rfl rfl (rks 36 rfl rfl rfl rfl rfl (rk0 37 rfl (q_pick_f rfl rfl rfl) rfl (rk0 38 rfl (q_assign rfl) rfl (rdk_endq kr (et (ev_ret (ret_pure' ttOk rfl rfl (congrArg bR (?_ : _ = _))))))))))))))))))))))))))))))))))))))))
  simp_all [headOk] <;> (intros; omega)
def slotM (l : List Int) (i : Nat) : List Mark := if l.getD (3 + 2 * i) 0 ≠ 0 ∨ l.getD (4 + 2 * i) 0 ≠ 0 then [⟨2 + i, l.getD (3 + 2 * i) 0, l.getD (4 + 2 * i) 0⟩] else []
def seenUp (l : List Int) : Nat → List Mark
 | 0 => []
 | k + 1 => seenUp l k ++ slotM l k
def noHead : Head := ⟨0, 0, 0, []⟩
def headOf (l : List Int) : Head := ⟨l.getD 0 0, l.getD 1 0, l.getD 2 0, seenUp l 4⟩
def rowHeadF (l : List Int) : Option Head := if l.length = 13 ∧ headOk (headOf l) = true ∧ l.getD 11 0 = l.getD 0 0 ∧ l.getD 12 0 = l.getD 0 0 then some (headOf l) else none
theorem getD_at {l : List Int} {k : Nat} (hk : k < l.length) : l.getD k 0 = l[k] := by simp [hk]
theorem slot_some {l : List Int} {k : Nat} (h1 : 3 + 2 * k < l.length) (h2 : 4 + 2 * k < l.length) (h : l[3 + 2 * k] ≠ 0 ∨ l[4 + 2 * k] ≠ 0) : (seenUp l k).map markC ++ [[iC (2 + k), iC l[3 + 2 * k], iC l[4 + 2 * k]]] = (seenUp l (k + 1)).map markC := by
 have : slotM l k = [⟨2 + k, l[3 + 2 * k], l[4 + 2 * k]⟩] := by unfold slotM; rw [getD_at h1, getD_at h2, if_pos h]
 simp [seenUp, this]
theorem slot_none {l : List Int} {k : Nat} (h1 : 3 + 2 * k < l.length) (h2 : 4 + 2 * k < l.length) (h3 : l[3 + 2 * k] = 0) (h4 : l[4 + 2 * k] = 0) : (seenUp l k).map markC = (seenUp l (k + 1)).map markC := by
 have : slotM l k = [] := by unfold slotM; rw [getD_at h1, getD_at h2, if_neg (by simp [h3, h4])]
 simp [seenUp, this]
theorem seenUp_len (l : List Int) : ∀ k, (seenUp l k).length ≤ k
 | 0 => by simp [seenUp]
 | k + 1 => by
  have := seenUp_len l k
  simp only [seenUp, List.length_append, slotM]
  split <;> simp <;> omega
theorem headOf_eq {l : List Int} (h : l.length = 13) : headOf l = ⟨l[0], l[1], l[2], seenUp l 4⟩ := by
 unfold headOf
 rw [getD_at (by omega : 0 < l.length), getD_at (by omega : 1 < l.length), getD_at (by omega : 2 < l.length)]
theorem rh_no1 {l : List Int} (h : l.length ≠ 13) : rowHeadF l = none := if_neg fun hh => h hh.1
theorem rh_no2 {l : List Int} (h : headOk (headOf l) = false) : rowHeadF l = none := if_neg fun hh => by rw [hh.2.1] at h; cases h
theorem rh_no3 {l : List Int} (hl : l.length = 13) (h : l[11] ≠ l[0]) : rowHeadF l = none := if_neg fun hh => h (by have := hh.2.2.1; rwa [getD_at (by omega : 11 < l.length), getD_at (by omega : 0 < l.length)] at this)
theorem rh_no4 {l : List Int} (hl : l.length = 13) (h : l[12] ≠ l[0]) : rowHeadF l = none := if_neg fun hh => h (by have := hh.2.2.2; rwa [getD_at (by omega : 12 < l.length), getD_at (by omega : 0 < l.length)] at this)
theorem rh_yes {l : List Int} (hl : l.length = 13) (h1 : headOk (headOf l) = true) (h2 : l[11] = l[0]) (h3 : l[12] = l[0]) : rowHeadF l = some (headOf l) := if_pos ⟨hl, h1, by rw [getD_at (by omega : 11 < l.length), getD_at (by omega : 0 < l.length), h2], by rw [getD_at (by omega : 12 < l.length), getD_at (by omega : 0 < l.length), h3]⟩
theorem c_RowHead' (l : List Int) : Pure Tryz.prog 47 [one (ints l)] [many' (headR ((rowHeadF l).getD noHead)), one' (RC.v (.bool (rowHeadF l).isSome))] := by
 refine pure_intro (N := 75) Tryz.func47 rfl rfl rfl rfl (fun H w => ?_)
 refine sq (rg (evl_e (e_alloc ttOk rfl rfl rfl rfl) (xs rfl rfl (nl (et (sq (sq (rg (xm rfl rfl (xo (q_len_map ttOk rfl rfl) rfl (xb ttOk rfl rfl (nl (et (ev_cond rfl (fun h1 => ?_) (fun h1 => ?_)))))))))))))))
 ·try have d1 := of_decide_eq_true h1
  refine sq (rg (xo (q_build ttOk rfl) rfl (xst ttOk rfl rfl (xs rfl rfl (nl (et (ev_ret (evr_then (ret_pureN ttOk rfl rfl ?_)))))))))
  rw [rh_no1 om]; simp [RpLe, L2, RcLe, noHead]
 ·try have d1 := of_decide_eq_false h1
  refine ev_skip (et (sq (ev_drawq [11] mo (rk0 0 rfl (q_move rfl) rfl (rk0 1 rfl (q_ix_map (m := 0) ttOk rfl rfl rfl om om) rfl (rk0 2 rfl (q_load ttOk rfl) rfl (rk0 3 rfl (q_move rfl) rfl (rk0 4 rfl (q_ix_map (m := 1) ttOk rfl rfl rfl om om) rfl (rk0 5 rfl (q_load ttOk rfl) rfl (rk0 6 rfl (q_move rfl) rfl (rk0 7 rfl (q_ix_map (m := 2) ttOk rfl rfl rfl om om) rfl (rk0 8 rfl (q_load ttOk rfl) rfl (rk0 9 rfl (q_build ttOk rfl) rfl (rdk_one 10 kr (rdo_new rfl trivial (e_alloc ttOk rfl rfl rfl rfl) (rdk_one 11 kr (rdo_brk rfl rfl trivial (e_store ttOk rfl) (rdb_endq kr (et (sq (sq (ev_adopt (b := 4) 3 101 76 3 rfl rfl rfl rfl rfl (rg (xs rfl rfl (nl (et (ev_blk (ev_loop (fun k : Nat => (⟨[(5, iV k), (0, cV (ints l)), (2, pbV 2 0), (3, bV false), (4, pbV 4 0)], [(4, 36, [.c (iC (l[0]'om)), .c (iC (l[1]'om)), .c (iC (l[2]'om)), .rt 101]), (2, 36, [.c (iC 0), .c (iC 0), .c (iC 0), .c .nil])], [(101, 76, 3, ((seenUp l k).map markC))], []⟩ : St)) (fun k => k ≤ 4) (fun k => 4 - k) 0 [] (by simp) ⟨trf, trf, ⟨⟨_, rfl, by rfl⟩, trivial⟩, tre, rfl⟩ ?_))))))))))))))))))))))))))))
  intro k hp
  have p0 := hp
  show Ev _ _ _ _ (⟨[(5, iV k), (0, cV (ints l)), (2, pbV 2 0), (3, bV false), (4, pbV 4 0)], [(4, 36, [.c (iC (l[0]'om)), .c (iC (l[1]'om)), .c (iC (l[2]'om)), .rt 101]), (2, 36, [.c (iC 0), .c (iC 0), .c (iC 0), .c .nil])], [(101, 76, 3, ((seenUp l k).map markC))], []⟩ : St)
  refine sq (sq (rg (xm rfl rfl (xb ttOk rfl rfl (nl (et (ev_cond rfl (fun h2 => ?_) (fun h2 => ?_))))))))
  ·try have d2 := of_decide_eq_true h2
   refine ev_skip (et (sq (ev_blk (sq (ev_drawq [] mo (rk0 0 rfl (q_move rfl) rfl (rk0 1 rfl (q_move rfl) rfl (rk0 2 rfl (q_ar rfl rfl rfl om) rfl (rk0 3 rfl (q_ar rfl rfl rfl om) rfl (rk0 4 rfl (q_ix_map (m := 3 + 2 * k) ttOk rfl rfl rfl om om) rfl (rk0 5 rfl (q_load ttOk rfl) rfl (rk0 6 rfl (q_move rfl) rfl (rk0 7 rfl (q_move rfl) rfl (rk0 8 rfl (q_ar rfl rfl rfl om) rfl (rk0 9 rfl (q_ar rfl rfl rfl om) rfl (rk0 10 rfl (q_ix_map (m := 4 + 2 * k) ttOk rfl rfl rfl om om) rfl (rk0 11 rfl (q_load ttOk rfl) rfl (rk0 12 rfl (q_assign rfl) rfl (rk0 13 rfl (q_assign rfl) rfl (rdk_endq kr (et (sq (rg (xm rfl rfl (xb ttOk rfl rfl (xm rfl rfl (evl_part rfl rfl (fun h3 => ?_) (fun h3 => ?_))))))))))))))))))))))))))))
   ·try have d3 := of_decide_eq_true h3
    refine gn h3 rfl rfl rfl (gn h3 rfl rfl rfl (xo (q_pick_t rfl h3 rfl) rfl (nl (et (ev_cond_kt rfl rfl ?_)))))
    have hsu := seenUp_len l k
    refine rg (xf ttOk rfl rfl (xl ttOk rfl rfl (xm rfl rfl (xa rfl rfl rfl om rfl (xm rfl rfl (xm rfl rfl (xo (q_build ttOk rfl) rfl (evl_e (e_lit ttOk rfl rfl rfl) (evl_e (e_app ttOk rfl rfl rfl rfl rfl rfl rfl (by first | (simp; done) | (simp; omega)) rfl rfl) (xf ttOk rfl rfl (xst ttOk rfl rfl (nl (eb (et (rg (xm rfl rfl (xa rfl rfl rfl om rfl (xs rfl rfl (nl (eve_round (k + 1) [(101, 52)] ?hp ⟨trf, trf, ⟨⟨_, rfl, by exact slot_some om om (by first | exact .inl ‹_› | exact .inr ‹_›)⟩, trivial⟩, tre, rfl⟩))))))))))))))))))))
    case hp => exact ⟨by omega, by omega⟩
   ·try have d3 := of_decide_eq_false h3
    refine gm h3 rfl rfl rfl rfl (go h3 rfl rfl (q_bin ttOk rfl) rfl (xo (q_pick_f rfl h3 rfl) rfl (nl (et (ev_cond rfl (fun h4 => ?_) (fun h4 => ?_))))))
    ·try have d4 := of_decide_eq_true h4
     have hsu := seenUp_len l k
     refine rg (xf ttOk rfl rfl (xl ttOk rfl rfl (xm rfl rfl (xa rfl rfl rfl om rfl (xm rfl rfl (xm rfl rfl (xo (q_build ttOk rfl) rfl (evl_e (e_lit ttOk rfl rfl rfl) (evl_e (e_app ttOk rfl rfl rfl rfl rfl rfl rfl (by first | (simp; done) | (simp; omega)) rfl rfl) (xf ttOk rfl rfl (xst ttOk rfl rfl (nl (eb (et (rg (xm rfl rfl (xa rfl rfl rfl om rfl (xs rfl rfl (nl (eve_round (k + 1) [(101, 52)] ?hp ⟨trf, trf, ⟨⟨_, rfl, by exact slot_some om om (by first | exact .inl ‹_› | exact .inr ‹_›)⟩, trivial⟩, tre, rfl⟩))))))))))))))))))))
     case hp => exact ⟨by omega, by omega⟩
    ·try have d4 := of_decide_eq_false h4
     refine ev_skip (eb (et (rg (xm rfl rfl (xa rfl rfl rfl om rfl (xs rfl rfl (nl (eve_round (k + 1) [] ?hp ⟨trf, trf, ⟨⟨_, rfl, by exact slot_none om om om om⟩, trivial⟩, tre, rfl⟩))))))))
     case hp => exact ⟨by omega, by omega⟩
  ·try have d2 := of_decide_eq_false h2
   refine ev_exit (evx_then (evx_then (evx_hit (et (sq (sq ?_))))))
   obtain rfl : k = 4 := by omega
   have hl : l.length = 13 := by omega
   have hhd := headOf_eq hl
   refine ev_drawq [] mo (rk0 0 rfl (q_load ttOk rfl) rfl (rdk_one 1 kr (rdo_call (nm := 55) rfl trivial (cf rfl) (c_HeadOk' ⟨_, _, _, _⟩) (rs_of rfl) rfl rfl rfl (rk0 2 rfl (q_not rfl) rfl (rk0 3 rfl (q_move rfl) rfl (rdk_partn (t := 57) rfl (fun h5 => ?_) (fun h5 => ?_)))))))
   ·try have d5 := of_decide_eq_false h5
    refine rdk_skip 4 rfl kr ⟨_, rfl, .inl ⟨_, rfl, (nt h5)⟩⟩ rfl (rdk_skip 5 rfl kr ⟨_, rfl, .inl ⟨_, rfl, (nt h5)⟩⟩ rfl (rdk_skip 6 rfl kr ⟨_, rfl, .inl ⟨_, rfl, (nt h5)⟩⟩ rfl (rdk_skip 7 rfl kr ⟨_, rfl, .inl ⟨_, rfl, (nt h5)⟩⟩ rfl (rdk_skip 8 rfl kr ⟨_, rfl, .inl ⟨_, rfl, (nt h5)⟩⟩ rfl (rdk_skip 9 rfl kr ⟨_, rfl, .inl ⟨_, rfl, (nt h5)⟩⟩ rfl (rk0 10 rfl (q_pick_t rfl (nt h5) rfl) rfl (rk0 11 rfl (q_move rfl) rfl (rks 12 rfl rfl rfl rfl rfl (rks 13 rfl rfl rfl rfl rfl (rks 14 rfl rfl rfl rfl rfl (rks 15 rfl rfl rfl rfl rfl (rks 16 rfl rfl rfl rfl rfl (rks 17 rfl rfl rfl rfl rfl (rk0 18 rfl (q_pick_t rfl rfl rfl) rfl (rdk_endq kr (et (ev_cond_kt rfl rfl (sq (rg (xo (q_build ttOk rfl) rfl (xst ttOk rfl rfl (xs rfl rfl (nl (et (ev_ret (evr_then (ret_pureN ttOk rfl rfl ?_)))))))))))))))))))))))))))
    rw [rh_no2 (by rw [hhd]; assumption)]; simp [RpLe, L2, RcLe, noHead]
   ·try have d5 := of_decide_eq_true h5
    refine rdk_take 4 rfl kr ⟨_, _, rfl, rfl, (nf h5)⟩ (q_move rfl) rfl (rdk_take 5 rfl kr ⟨_, _, rfl, rfl, (nf h5)⟩ (q_ix_map (m := 11) ttOk rfl rfl rfl om om) rfl (rdk_take 6 rfl kr ⟨_, _, rfl, rfl, (nf h5)⟩ (q_load ttOk rfl) rfl (rdk_take 7 rfl kr ⟨_, _, rfl, rfl, (nf h5)⟩ (q_fieldAddr ttOk rfl) rfl (rdk_take 8 rfl kr ⟨_, _, rfl, rfl, (nf h5)⟩ (q_load ttOk rfl) rfl (rdk_take 9 rfl kr ⟨_, _, rfl, rfl, (nf h5)⟩ (q_bin ttOk rfl) rfl (rk0 10 rfl (q_pick_f rfl (nf h5) rfl) rfl (rk0 11 rfl (q_move rfl) rfl (rdk_part (t := 65) rfl (fun h6 => ?_) (fun h6 => ?_)))))))))
    ·try have d6 := of_decide_eq_true h6
     refine rks 12 rfl rfl rfl h6 rfl (rks 13 rfl rfl rfl h6 rfl (rks 14 rfl rfl rfl h6 rfl (rks 15 rfl rfl rfl h6 rfl (rks 16 rfl rfl rfl h6 rfl (rks 17 rfl rfl rfl h6 rfl (rk0 18 rfl (q_pick_t rfl h6 rfl) rfl (rdk_endq kr (et (ev_cond_kt rfl rfl (sq (rg (xo (q_build ttOk rfl) rfl (xst ttOk rfl rfl (xs rfl rfl (nl (et (ev_ret (evr_then (ret_pureN ttOk rfl rfl ?_)))))))))))))))))))
     rw [rh_no3 hl ‹_›]; simp [RpLe, L2, RcLe, noHead]
    ·try have d6 := of_decide_eq_false h6
     refine rkt 12 rfl rfl rfl h6 (q_move rfl) rfl (rkt 13 rfl rfl rfl h6 (q_ix_map (m := 12) ttOk rfl rfl rfl om om) rfl (rkt 14 rfl rfl rfl h6 (q_load ttOk rfl) rfl (rkt 15 rfl rfl rfl h6 (q_fieldAddr ttOk rfl) rfl (rkt 16 rfl rfl rfl h6 (q_load ttOk rfl) rfl (rkt 17 rfl rfl rfl h6 (q_bin ttOk rfl) rfl (rk0 18 rfl (q_pick_f rfl h6 rfl) rfl (rdk_endq kr (et (ev_cond rfl (fun h7 => ?_) (fun h7 => ?_))))))))))
     ·try have d7 := of_decide_eq_true h7
      refine sq (rg (xo (q_build ttOk rfl) rfl (xst ttOk rfl rfl (xs rfl rfl (nl (et (ev_ret (evr_then (ret_pureN ttOk rfl rfl ?_)))))))))
      rw [rh_no4 hl ‹_›]; simp [RpLe, L2, RcLe, noHead]
     ·try have d7 := of_decide_eq_false h7
      refine ev_skip (et (sq (rg (xl ttOk rfl rfl (xst ttOk rfl rfl (xs rfl rfl (nl (et (ev_ret (ret_pure' ttOk rfl rfl ?_))))))))))
      rw [rh_yes hl (by rw [hhd]; assumption) om om, hhd]; rfl
theorem c_RowHead (l : List Int) : Pure Tryz.prog 28 [one (ints l)] [many' (headR ((rowHeadF l).getD noHead)), one' (RC.v (.bool (rowHeadF l).isSome))] := by
 refine pure_intro (N := 75) Tryz.func28 rfl rfl rfl rfl (fun H w => ?_)
 refine sq (rg (evl_e (e_alloc ttOk rfl rfl rfl rfl) (xs rfl rfl (nl (et (sq (sq (ev_drawq [] mo (rk0 0 rfl (q_move rfl) rfl (rk0 1 rfl (q_len_map ttOk rfl rfl) rfl (rk0 2 rfl (q_bin ttOk rfl) rfl (rk0 3 rfl (q_move rfl) rfl (rdk_part (t := 10) rfl (fun h1 => ?_) (fun h1 => ?_))))))))))))))
 try have d1 := of_decide_eq_true h1
 refine rks 4 rfl rfl rfl h1 rfl (rks 5 rfl rfl rfl h1 rfl (rks 6 rfl rfl rfl h1 rfl (rks 7 rfl rfl rfl h1 rfl (rks 8 rfl rfl rfl h1 rfl (rks 9 rfl rfl rfl h1 rfl (rks 10 rfl rfl rfl h1 rfl (rk0 11 rfl (q_pick_t rfl h1 rfl) rfl (rk0 12 rfl (q_move rfl) rfl (rks 13 rfl rfl rfl rfl rfl (rks 14 rfl rfl rfl rfl rfl (rks 15 rfl rfl rfl rfl rfl (rks 16 rfl rfl rfl rfl rfl (rks 17 rfl rfl rfl rfl rfl (rks 18 rfl rfl rfl rfl rfl (rks 19 rfl rfl rfl rfl rfl (rk0 20 rfl (q_pick_t rfl rfl rfl) rfl (rdk_endq kr (et (ev_cond_kt rfl rfl (sq (rg (xo (q_build ttOk rfl) rfl (xst ttOk rfl rfl (xs rfl rfl (nl (et (ev_ret (evr_then (ret_pureN ttOk rfl rfl ?_)))))))))))))))))))))))))))))
 rotate_left
 try have d1 := of_decide_eq_false h1
 refine rkt 4 rfl rfl rfl h1 (q_move rfl) rfl (rkt 5 rfl rfl rfl h1 (q_ix_map (m := 11) ttOk rfl rfl rfl om om) rfl (rkt 6 rfl rfl rfl h1 (q_load ttOk rfl) rfl (rkt 7 rfl rfl rfl h1 (q_move rfl) rfl (rkt 8 rfl rfl rfl h1 (q_ix_map (m := 0) ttOk rfl rfl rfl om om) rfl (rkt 9 rfl rfl rfl h1 (q_load ttOk rfl) rfl (rkt 10 rfl rfl rfl h1 (q_bin ttOk rfl) rfl (rk0 11 rfl (q_pick_f rfl h1 rfl) rfl (rk0 12 rfl (q_move rfl) rfl (rdk_part (t := 19) rfl (fun h2 => ?_) (fun h2 => ?_))))))))))
 try have d2 := of_decide_eq_true h2
 refine rks 13 rfl rfl rfl h2 rfl (rks 14 rfl rfl rfl h2 rfl (rks 15 rfl rfl rfl h2 rfl (rks 16 rfl rfl rfl h2 rfl (rks 17 rfl rfl rfl h2 rfl (rks 18 rfl rfl rfl h2 rfl (rks 19 rfl rfl rfl h2 rfl (rk0 20 rfl (q_pick_t rfl h2 rfl) rfl (rdk_endq kr (et (ev_cond_kt rfl rfl (sq (rg (xo (q_build ttOk rfl) rfl (xst ttOk rfl rfl (xs rfl rfl (nl (et (ev_ret (evr_then (ret_pureN ttOk rfl rfl ?_))))))))))))))))))))
 rotate_left
 try have d2 := of_decide_eq_false h2
 refine rkt 13 rfl rfl rfl h2 (q_move rfl) rfl (rkt 14 rfl rfl rfl h2 (q_ix_map (m := 12) ttOk rfl rfl rfl om om) rfl (rkt 15 rfl rfl rfl h2 (q_load ttOk rfl) rfl (rkt 16 rfl rfl rfl h2 (q_move rfl) rfl (rkt 17 rfl rfl rfl h2 (q_ix_map (m := 0) ttOk rfl rfl rfl om om) rfl (rkt 18 rfl rfl rfl h2 (q_load ttOk rfl) rfl (rkt 19 rfl rfl rfl h2 (q_bin ttOk rfl) rfl (rk0 20 rfl (q_pick_f rfl h2 rfl) rfl (rdk_endq kr (et (ev_cond rfl (fun h3 => ?_) (fun h3 => ?_)))))))))))
 try have d3 := of_decide_eq_true h3
 refine sq (rg (xo (q_build ttOk rfl) rfl (xst ttOk rfl rfl (xs rfl rfl (nl (et (ev_ret (evr_then (ret_pureN ttOk rfl rfl ?_)))))))))
 rotate_left
 try have d3 := of_decide_eq_false h3
 refine ev_skip (et (sq (ev_drawq [11] mo (rk0 0 rfl (q_move rfl) rfl (rk0 1 rfl (q_ix_map (m := 0) ttOk rfl rfl rfl om om) rfl (rk0 2 rfl (q_load ttOk rfl) rfl (rk0 3 rfl (q_move rfl) rfl (rk0 4 rfl (q_ix_map (m := 1) ttOk rfl rfl rfl om om) rfl (rk0 5 rfl (q_load ttOk rfl) rfl (rk0 6 rfl (q_move rfl) rfl (rk0 7 rfl (q_ix_map (m := 2) ttOk rfl rfl rfl om om) rfl (rk0 8 rfl (q_load ttOk rfl) rfl (rk0 9 rfl (q_build ttOk rfl) rfl (rdk_one 10 kr (rdo_new rfl trivial (e_alloc ttOk rfl rfl rfl rfl) (rdk_one 11 kr (rdo_brk rfl rfl trivial (e_store ttOk rfl) (rdb_endq kr (et (sq (sq (ev_adopt (b := 4) 3 101 76 3 rfl rfl rfl rfl rfl (rg (xs rfl rfl (nl (et (ev_blk (ev_loop (fun i : Nat × Int => (⟨[(5, iV i.2), (0, cV (ints l)), (2, pbV 2 0), (3, bV false), (4, pbV 4 0)], [(4, 36, [.c (iC (l[0]'om)), .c (iC (l[1]'om)), .c (iC (l[2]'om)), .rt 101]), (2, 36, [.c (iC 0), .c (iC 0), .c (iC 0), .c .nil])], [(101, 76, 3, ((seenUp l i.1).map markC))], []⟩ : St)) (fun i => i.1 ≤ 4 ∧ i.2 = (i.1 : Int) + 2) (fun i => 4 - i.1) (0, 2) [] (⟨by simp, rfl⟩) ⟨trf, trf, ⟨⟨_, rfl, by rfl⟩, trivial⟩, tre, rfl⟩ ?_))))))))))))))))))))))))))))
 intro i hp
 obtain ⟨k, z⟩ := i
 have hp : k ≤ 4 ∧ z = (k : Int) + 2 := hp
 obtain ⟨p0, p1⟩ := hp
 show Ev _ _ _ _ (⟨[(5, iV z), (0, cV (ints l)), (2, pbV 2 0), (3, bV false), (4, pbV 4 0)], [(4, 36, [.c (iC (l[0]'om)), .c (iC (l[1]'om)), .c (iC (l[2]'om)), .rt 101]), (2, 36, [.c (iC 0), .c (iC 0), .c (iC 0), .c .nil])], [(101, 76, 3, ((seenUp l k).map markC))], []⟩ : St)
 refine sq (sq (rg (xm rfl rfl (xb ttOk rfl rfl (nl (et (ev_cond rfl (fun h4 => ?_) (fun h4 => ?_))))))))
 try have d4 := of_decide_eq_true h4
 refine ev_skip (et (sq (ev_blk (sq (ev_drawq [14] mo (rk0 0 rfl (q_move rfl) rfl (rk0 1 rfl (q_move rfl) rfl (rk0 2 rfl (q_move rfl) rfl (rk0 3 rfl (q_ar rfl rfl rfl om) rfl (rk0 4 rfl (q_ar rfl rfl rfl om) rfl (rk0 5 rfl (q_ix_map (m := 3 + 2 * k) ttOk rfl rfl rfl om om) rfl (rk0 6 rfl (q_load ttOk rfl) rfl (rk0 7 rfl (q_move rfl) rfl (rk0 8 rfl (q_move rfl) rfl (rk0 9 rfl (q_ar rfl rfl rfl om) rfl (rk0 10 rfl (q_ix_map (m := 4 + 2 * k) ttOk rfl rfl rfl om om) rfl (rk0 11 rfl (q_load ttOk rfl) rfl (rk0 12 rfl (q_build ttOk rfl) rfl (rdk_one 13 kr (rdo_new rfl trivial (e_alloc ttOk rfl rfl rfl rfl) (rdk_one 14 kr (rdo_brk rfl rfl trivial (e_store ttOk rfl) (rdb_endq kr (et (sq (rg (xf ttOk rfl rfl (xl ttOk rfl rfl (xb ttOk rfl rfl (xm rfl rfl (evl_part rfl rfl (fun h5 => ?_) (fun h5 => ?_))))))))))))))))))))))))))))))))
 try have d5 := of_decide_eq_true h5
 refine gn h5 rfl rfl rfl (gn h5 rfl rfl rfl (gn h5 rfl rfl rfl (xo (q_pick_t rfl h5 rfl) rfl (nl (et (ev_cond_kt rfl rfl ?_))))))
 have hsu := seenUp_len l k
 refine rg (xf ttOk rfl rfl (xl ttOk rfl rfl (xl ttOk rfl rfl (evl_e (e_lit ttOk rfl rfl rfl) (evl_e (e_app ttOk rfl rfl rfl rfl rfl rfl rfl (by first | (simp; done) | (simp; omega)) rfl rfl) (xf ttOk rfl rfl (xst ttOk rfl rfl (nl (eb (et (rg (xm rfl rfl (xa rfl rfl rfl om rfl (xs rfl rfl (nl (eve_round (k + 1, _) [(101, 68)] ?hp ⟨trf, trf, ⟨⟨_, rfl, by (have hh := slot_some (l := l) (k := k) om om (by first | exact .inl ‹_› | exact .inr ‹_›); rw [show (2 : Int) + k = z by omega] at hh; exact hh)⟩, trivial⟩, tre, rfl⟩))))))))))))))))
 case hp => exact ⟨⟨by omega, by omega⟩, by omega⟩
 try have d5 := of_decide_eq_false h5
 refine go h5 rfl rfl (q_fieldAddr ttOk rfl) rfl (go h5 rfl rfl (q_load ttOk rfl) rfl (go h5 rfl rfl (q_bin ttOk rfl) rfl (xo (q_pick_f rfl h5 rfl) rfl (nl (et (ev_cond rfl (fun h6 => ?_) (fun h6 => ?_)))))))
 try have d6 := of_decide_eq_true h6
 have hsu := seenUp_len l k
 refine rg (xf ttOk rfl rfl (xl ttOk rfl rfl (xl ttOk rfl rfl (evl_e (e_lit ttOk rfl rfl rfl) (evl_e (e_app ttOk rfl rfl rfl rfl rfl rfl rfl (by first | (simp; done) | (simp; omega)) rfl rfl) (xf ttOk rfl rfl (xst ttOk rfl rfl (nl (eb (et (rg (xm rfl rfl (xa rfl rfl rfl om rfl (xs rfl rfl (nl (eve_round (k + 1, _) [(101, 68)] ?hp ⟨trf, trf, ⟨⟨_, rfl, by (have hh := slot_some (l := l) (k := k) om om (by first | exact .inl ‹_› | exact .inr ‹_›); rw [show (2 : Int) + k = z by omega] at hh; exact hh)⟩, trivial⟩, tre, rfl⟩))))))))))))))))
 case hp => exact ⟨⟨by omega, by omega⟩, by omega⟩
 try have d6 := of_decide_eq_false h6
 refine ev_skip (eb (et (rg (xm rfl rfl (xa rfl rfl rfl om rfl (xs rfl rfl (nl (eve_round (k + 1, _) [] ?hp ⟨trf, trf, ⟨⟨_, rfl, by exact slot_none om om om om⟩, trivial⟩, tre, rfl⟩))))))))
 case hp => exact ⟨⟨by omega, by omega⟩, by omega⟩
 try have d4 := of_decide_eq_false h4
 refine ev_exit (evx_then (evx_then (evx_hit (et (sq (sq ?_))))))
 obtain rfl : k = 4 := by omega
 have hl : l.length = 13 := by omega
 have hhd := headOf_eq hl
 refine rg (xl ttOk rfl rfl (evl_call (nm := 71) (cf rfl) (c_HeadOk ⟨_, _, _, _⟩) (rs_of rfl) rfl rfl rfl (xo (q_not rfl) rfl (nl (et (ev_cond_n rfl (fun h7 => ?_) (fun h7 => ?_)))))))
 try have d7 := of_decide_eq_false h7
 refine sq (rg (xo (q_build ttOk rfl) rfl (xst ttOk rfl rfl (xs rfl rfl (nl (et (ev_ret (evr_then (ret_pureN ttOk rfl rfl ?_)))))))))
 rotate_left
 try have d7 := of_decide_eq_true h7
 refine ev_skip (et (sq (rg (xl ttOk rfl rfl (xst ttOk rfl rfl (xs rfl rfl (nl (et (ev_ret (ret_pureN ttOk rfl rfl ?_))))))))))
 rotate_left
 all_goals
  first
  | (rw [rh_no1 om]; simp [RpLe, L2, RcLe, noHead]; done)
  | (rw [rh_no2 (by rw [hhd]; assumption)]; simp [RpLe, L2, RcLe, noHead]; done)
  | (rw [rh_no3 om ‹_›]; simp [RpLe, L2, RcLe, noHead]; done)
  | (rw [rh_no4 om ‹_›]; simp [RpLe, L2, RcLe, noHead]; done)
  | (rw [rh_yes hl (by rw [hhd]; assumption) om om, hhd]; exact ⟨⟨rfl, rfl, rfl, rfl, rfl, trivial⟩, ⟨rfl, rfl, trivial⟩, trivial⟩)
end Go.Proofs.YtahkjonokeifmaaGreat
