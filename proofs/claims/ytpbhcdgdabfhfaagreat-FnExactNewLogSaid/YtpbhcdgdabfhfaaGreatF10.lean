/- Walks of functions of the program, printed by a program of the prover. -/
import Derived.Test.YtpbhcdgdabfhfaaGreatF9
namespace Go.Proofs.YtpbhcdgdabfhfaaGreat
open Go.ChangeShapes Go.WideShapes Go.ChangeAt Go.RowKit
set_option linter.unusedVariables false
set_option linter.unusedSimpArgs false
set_option maxHeartbeats 1000000
set_option maxRecDepth 100000
attribute [local irreducible] EvL Ev EvE Quiet Eff Pure RDk RDb RDo
structure Head where
  num : Int
  base : Int
  time : Int
  seen : List Mark
@[reducible] def headC (h : Head) : List C := [iC h.num, iC h.base, iC h.time, marks h.seen]
@[reducible] def marksR (l : List Mark) : RC := .s 156 3 (l.map markC)
@[reducible] def headR (h : Head) : List RC := [.v (.int .i64 h.num), .v (.int .i64 h.base), .v (.int .i64 h.time), marksR h.seen]
def headOk (h : Head) : Bool := inB h.base 0 2000 && (inB h.num 0 h.base && (timeOk h.time && ((decide (h.base > 0) || decide (h.time = 0)) && (seenOk h.seen && decide (lastF h.seen = h.base)))))
theorem c_HeadOk (h : Head) : Pure Tryz.prog 72 [many (headC h)] (bR (headOk h)) := by
  refine pure_intro (N := 41) Tryz.func72 rfl rfl rfl rfl (fun H w => ?_)
  (repeat refine sq ?_)
  refine rg ?_
  refine evl_e (e_box rfl rfl rfl rfl) ?_
  refine xs rfl rfl ?_
  refine nl ?_
  (repeat first | refine et ?_ | refine eb ?_)
  (repeat refine sq ?_)
  refine ev_drawq [] mo ?_
  refine rdk_take 0 rfl (by kernel_rfl) trivial (q_fieldAddr ttOk rfl) rfl ?_
  refine rdk_take 1 rfl (by kernel_rfl) trivial (q_load ttOk rfl) rfl ?_
  refine rdk_one 2 (by kernel_rfl) ?_
  refine rdo_call (nm := 5) rfl trivial (cf rfl) (c_l1In _ _ _) (rs_of rfl) rfl rfl rfl ?_
  refine rdk_take 3 rfl (by kernel_rfl) trivial (q_move rfl) rfl ?_
  refine rdk_part (t := 6) rfl (fun h1 => ?_) (fun h1 => ?_)
  · refine rdk_take 4 rfl (by kernel_rfl) ⟨_, _, rfl, rfl, h1⟩ (q_fieldAddr ttOk rfl) rfl ?_
    refine rdk_take 5 rfl (by kernel_rfl) ⟨_, _, rfl, rfl, h1⟩ (q_load ttOk rfl) rfl ?_
    refine rdk_take 6 rfl (by kernel_rfl) ⟨_, _, rfl, rfl, h1⟩ (q_fieldAddr ttOk rfl) rfl ?_
    refine rdk_take 7 rfl (by kernel_rfl) ⟨_, _, rfl, rfl, h1⟩ (q_load ttOk rfl) rfl ?_
    refine rdk_one 8 (by kernel_rfl) ?_
    refine rdo_call (nm := 11) rfl ⟨_, _, rfl, rfl, h1⟩ (cf rfl) (c_l1In _ _ _) (rs_of rfl) rfl rfl rfl ?_
    refine rdk_take 9 rfl (by kernel_rfl) trivial (q_pick_t rfl h1 rfl) rfl ?_
    refine rdk_take 10 rfl (by kernel_rfl) trivial (q_move rfl) rfl ?_
    refine rdk_part (t := 13) rfl (fun h2 => ?_) (fun h2 => ?_)
    · refine rdk_take 11 rfl (by kernel_rfl) ⟨_, _, rfl, rfl, h2⟩ (q_fieldAddr ttOk rfl) rfl ?_
      refine rdk_take 12 rfl (by kernel_rfl) ⟨_, _, rfl, rfl, h2⟩ (q_load ttOk rfl) rfl ?_
      refine rdk_one 13 (by kernel_rfl) ?_
      refine rdo_call (nm := 16) rfl ⟨_, _, rfl, rfl, h2⟩ (cf rfl) (c_TimeOk _) (rs_of rfl) rfl rfl rfl ?_
      refine rdk_take 14 rfl (by kernel_rfl) trivial (q_pick_t rfl h2 rfl) rfl ?_
      refine rdk_take 15 rfl (by kernel_rfl) trivial (q_move rfl) rfl ?_
      refine rdk_part (t := 18) rfl (fun h3 => ?_) (fun h3 => ?_)
      · refine rdk_take 16 rfl (by kernel_rfl) ⟨_, _, rfl, rfl, h3⟩ (q_fieldAddr ttOk rfl) rfl ?_
        refine rdk_take 17 rfl (by kernel_rfl) ⟨_, _, rfl, rfl, h3⟩ (q_load ttOk rfl) rfl ?_
        refine rdk_take 18 rfl (by kernel_rfl) ⟨_, _, rfl, rfl, h3⟩ (q_bin ttOk rfl) rfl ?_
        refine rdk_take 19 rfl (by kernel_rfl) ⟨_, _, rfl, rfl, h3⟩ (q_move rfl) rfl ?_
        refine rdk_part (t := 22) rfl (fun h4 => ?_) (fun h4 => ?_)
        · refine rdk_skip 20 rfl (by kernel_rfl) ⟨_, rfl, .inl ⟨_, rfl, h4⟩⟩ rfl ?_
          refine rdk_skip 21 rfl (by kernel_rfl) ⟨_, rfl, .inl ⟨_, rfl, h4⟩⟩ rfl ?_
          refine rdk_skip 22 rfl (by kernel_rfl) ⟨_, rfl, .inl ⟨_, rfl, h4⟩⟩ rfl ?_
          refine rdk_take 23 rfl (by kernel_rfl) ⟨_, _, rfl, rfl, h3⟩ (q_pick_t rfl h4 rfl) rfl ?_
          refine rdk_take 24 rfl (by kernel_rfl) trivial (q_pick_t rfl h3 rfl) rfl ?_
          refine rdk_take 25 rfl (by kernel_rfl) trivial (q_move rfl) rfl ?_
          refine rdk_take 26 rfl (by kernel_rfl) ⟨_, _, rfl, rfl, rfl⟩ (q_fieldAddr ttOk rfl) rfl ?_
          refine rdk_take 27 rfl (by kernel_rfl) ⟨_, _, rfl, rfl, rfl⟩ (q_load ttOk rfl) rfl ?_
          refine rdk_one 28 (by kernel_rfl) ?_
          refine rdo_call (nm := 31) rfl ⟨_, _, rfl, rfl, rfl⟩ (cf rfl) (c_SeenOk _) (rs_of rfl) rfl rfl rfl ?_
          refine rdk_take 29 rfl (by kernel_rfl) trivial (q_pick_t rfl rfl rfl) rfl ?_
          refine rdk_take 30 rfl (by kernel_rfl) trivial (q_move rfl) rfl ?_
          refine rdk_part (t := 33) rfl (fun h5 => ?_) (fun h5 => ?_)
          · refine rdk_take 31 rfl (by kernel_rfl) ⟨_, _, rfl, rfl, h5⟩ (q_fieldAddr ttOk rfl) rfl ?_
            refine rdk_take 32 rfl (by kernel_rfl) ⟨_, _, rfl, rfl, h5⟩ (q_load ttOk rfl) rfl ?_
            refine rdk_take 34 rfl (by kernel_rfl) ⟨_, _, rfl, rfl, h5⟩ (q_fieldAddr ttOk rfl) rfl ?_
            refine rdk_take 35 rfl (by kernel_rfl) ⟨_, _, rfl, rfl, h5⟩ (q_load ttOk rfl) rfl ?_
            refine rdk_one 33 (by kernel_rfl) ?_
            refine rdo_call (nm := 36) rfl ⟨_, _, rfl, rfl, h5⟩ (cf rfl) (c_LastSeen _) (rs_of rfl) rfl rfl rfl ?_
            refine rdk_take 36 rfl (by kernel_rfl) ⟨_, _, rfl, rfl, h5⟩ (q_bin ttOk rfl) rfl ?_
            refine rdk_take 37 rfl (by kernel_rfl) trivial (q_pick_t rfl h5 rfl) rfl ?_
            refine rdk_take 38 rfl (by kernel_rfl) trivial (q_assign rfl) rfl ?_
            refine rdk_endq (by kernel_rfl) ?_
            (repeat first | refine et ?_ | refine eb ?_)
            (repeat refine sq ?_)
            refine ev_ret ?_
            (repeat first | refine evr_then ?_ | refine evr_blk ?_)
            refine ret_pure' ttOk rfl rfl ?_
            refine congrArg bR (?_ : _ = _)
            simp_all [headOk] <;> (intros; omega)
          · refine rdk_skip 31 rfl (by kernel_rfl) ⟨_, rfl, .inl ⟨_, rfl, h5⟩⟩ rfl ?_
            refine rdk_skip 32 rfl (by kernel_rfl) ⟨_, rfl, .inl ⟨_, rfl, h5⟩⟩ rfl ?_
            refine rdk_skip 33 rfl (by kernel_rfl) ⟨_, rfl, .inl ⟨_, rfl, h5⟩⟩ rfl ?_
            refine rdk_skip 34 rfl (by kernel_rfl) ⟨_, rfl, .inl ⟨_, rfl, h5⟩⟩ rfl ?_
            refine rdk_skip 35 rfl (by kernel_rfl) ⟨_, rfl, .inl ⟨_, rfl, h5⟩⟩ rfl ?_
            refine rdk_skip 36 rfl (by kernel_rfl) ⟨_, rfl, .inl ⟨_, rfl, h5⟩⟩ rfl ?_
            refine rdk_take 37 rfl (by kernel_rfl) trivial (q_pick_f rfl h5 rfl) rfl ?_
            refine rdk_take 38 rfl (by kernel_rfl) trivial (q_assign rfl) rfl ?_
            refine rdk_endq (by kernel_rfl) ?_
            (repeat first | refine et ?_ | refine eb ?_)
            (repeat refine sq ?_)
            refine ev_ret ?_
            (repeat first | refine evr_then ?_ | refine evr_blk ?_)
            refine ret_pure' ttOk rfl rfl ?_
            refine congrArg bR (?_ : _ = _)
            simp_all [headOk] <;> (intros; omega)
        · refine rdk_take 20 rfl (by kernel_rfl) ⟨_, _, rfl, rfl, h4⟩ (q_fieldAddr ttOk rfl) rfl ?_
          refine rdk_take 21 rfl (by kernel_rfl) ⟨_, _, rfl, rfl, h4⟩ (q_load ttOk rfl) rfl ?_
          refine rdk_take 22 rfl (by kernel_rfl) ⟨_, _, rfl, rfl, h4⟩ (q_bin ttOk rfl) rfl ?_
          refine rdk_take 23 rfl (by kernel_rfl) ⟨_, _, rfl, rfl, h3⟩ (q_pick_f rfl h4 rfl) rfl ?_
          refine rdk_take 24 rfl (by kernel_rfl) trivial (q_pick_t rfl h3 rfl) rfl ?_
          refine rdk_take 25 rfl (by kernel_rfl) trivial (q_move rfl) rfl ?_
          refine rdk_part (t := 28) rfl (fun h6 => ?_) (fun h6 => ?_)
          · refine rdk_take 26 rfl (by kernel_rfl) ⟨_, _, rfl, rfl, h6⟩ (q_fieldAddr ttOk rfl) rfl ?_
            refine rdk_take 27 rfl (by kernel_rfl) ⟨_, _, rfl, rfl, h6⟩ (q_load ttOk rfl) rfl ?_
            refine rdk_one 28 (by kernel_rfl) ?_
            refine rdo_call (nm := 31) rfl ⟨_, _, rfl, rfl, h6⟩ (cf rfl) (c_SeenOk _) (rs_of rfl) rfl rfl rfl ?_
            refine rdk_take 29 rfl (by kernel_rfl) trivial (q_pick_t rfl h6 rfl) rfl ?_
            refine rdk_take 30 rfl (by kernel_rfl) trivial (q_move rfl) rfl ?_
            refine rdk_part (t := 33) rfl (fun h7 => ?_) (fun h7 => ?_)
            · refine rdk_take 31 rfl (by kernel_rfl) ⟨_, _, rfl, rfl, h7⟩ (q_fieldAddr ttOk rfl) rfl ?_
              refine rdk_take 32 rfl (by kernel_rfl) ⟨_, _, rfl, rfl, h7⟩ (q_load ttOk rfl) rfl ?_
              refine rdk_take 34 rfl (by kernel_rfl) ⟨_, _, rfl, rfl, h7⟩ (q_fieldAddr ttOk rfl) rfl ?_
              refine rdk_take 35 rfl (by kernel_rfl) ⟨_, _, rfl, rfl, h7⟩ (q_load ttOk rfl) rfl ?_
              refine rdk_one 33 (by kernel_rfl) ?_
              refine rdo_call (nm := 36) rfl ⟨_, _, rfl, rfl, h7⟩ (cf rfl) (c_LastSeen _) (rs_of rfl) rfl rfl rfl ?_
              refine rdk_take 36 rfl (by kernel_rfl) ⟨_, _, rfl, rfl, h7⟩ (q_bin ttOk rfl) rfl ?_
              refine rdk_take 37 rfl (by kernel_rfl) trivial (q_pick_t rfl h7 rfl) rfl ?_
              refine rdk_take 38 rfl (by kernel_rfl) trivial (q_assign rfl) rfl ?_
              refine rdk_endq (by kernel_rfl) ?_
              (repeat first | refine et ?_ | refine eb ?_)
              (repeat refine sq ?_)
              refine ev_ret ?_
              (repeat first | refine evr_then ?_ | refine evr_blk ?_)
              refine ret_pure' ttOk rfl rfl ?_
              refine congrArg bR (?_ : _ = _)
              simp_all [headOk] <;> (intros; omega)
            · refine rdk_skip 31 rfl (by kernel_rfl) ⟨_, rfl, .inl ⟨_, rfl, h7⟩⟩ rfl ?_
              refine rdk_skip 32 rfl (by kernel_rfl) ⟨_, rfl, .inl ⟨_, rfl, h7⟩⟩ rfl ?_
              refine rdk_skip 33 rfl (by kernel_rfl) ⟨_, rfl, .inl ⟨_, rfl, h7⟩⟩ rfl ?_
              refine rdk_skip 34 rfl (by kernel_rfl) ⟨_, rfl, .inl ⟨_, rfl, h7⟩⟩ rfl ?_
              refine rdk_skip 35 rfl (by kernel_rfl) ⟨_, rfl, .inl ⟨_, rfl, h7⟩⟩ rfl ?_
              refine rdk_skip 36 rfl (by kernel_rfl) ⟨_, rfl, .inl ⟨_, rfl, h7⟩⟩ rfl ?_
              refine rdk_take 37 rfl (by kernel_rfl) trivial (q_pick_f rfl h7 rfl) rfl ?_
              refine rdk_take 38 rfl (by kernel_rfl) trivial (q_assign rfl) rfl ?_
              refine rdk_endq (by kernel_rfl) ?_
              (repeat first | refine et ?_ | refine eb ?_)
              (repeat refine sq ?_)
              refine ev_ret ?_
              (repeat first | refine evr_then ?_ | refine evr_blk ?_)
              refine ret_pure' ttOk rfl rfl ?_
              refine congrArg bR (?_ : _ = _)
              simp_all [headOk] <;> (intros; omega)
          · refine rdk_skip 26 rfl (by kernel_rfl) ⟨_, rfl, .inl ⟨_, rfl, h6⟩⟩ rfl ?_
            refine rdk_skip 27 rfl (by kernel_rfl) ⟨_, rfl, .inl ⟨_, rfl, h6⟩⟩ rfl ?_
            refine rdk_skip 28 rfl (by kernel_rfl) ⟨_, rfl, .inl ⟨_, rfl, h6⟩⟩ rfl ?_
            refine rdk_take 29 rfl (by kernel_rfl) trivial (q_pick_f rfl h6 rfl) rfl ?_
            refine rdk_take 30 rfl (by kernel_rfl) trivial (q_move rfl) rfl ?_
            refine rdk_skip 31 rfl (by kernel_rfl) ⟨_, rfl, .inl ⟨_, rfl, rfl⟩⟩ rfl ?_
            refine rdk_skip 32 rfl (by kernel_rfl) ⟨_, rfl, .inl ⟨_, rfl, rfl⟩⟩ rfl ?_
            refine rdk_skip 33 rfl (by kernel_rfl) ⟨_, rfl, .inl ⟨_, rfl, rfl⟩⟩ rfl ?_
            refine rdk_skip 34 rfl (by kernel_rfl) ⟨_, rfl, .inl ⟨_, rfl, rfl⟩⟩ rfl ?_
            refine rdk_skip 35 rfl (by kernel_rfl) ⟨_, rfl, .inl ⟨_, rfl, rfl⟩⟩ rfl ?_
            refine rdk_skip 36 rfl (by kernel_rfl) ⟨_, rfl, .inl ⟨_, rfl, rfl⟩⟩ rfl ?_
            refine rdk_take 37 rfl (by kernel_rfl) trivial (q_pick_f rfl rfl rfl) rfl ?_
            refine rdk_take 38 rfl (by kernel_rfl) trivial (q_assign rfl) rfl ?_
            refine rdk_endq (by kernel_rfl) ?_
            (repeat first | refine et ?_ | refine eb ?_)
            (repeat refine sq ?_)
            refine ev_ret ?_
            (repeat first | refine evr_then ?_ | refine evr_blk ?_)
            refine ret_pure' ttOk rfl rfl ?_
            refine congrArg bR (?_ : _ = _)
            simp_all [headOk] <;> (intros; omega)
      · refine rdk_skip 16 rfl (by kernel_rfl) ⟨_, rfl, .inl ⟨_, rfl, h3⟩⟩ rfl ?_
        refine rdk_skip 17 rfl (by kernel_rfl) ⟨_, rfl, .inl ⟨_, rfl, h3⟩⟩ rfl ?_
        refine rdk_skip 18 rfl (by kernel_rfl) ⟨_, rfl, .inl ⟨_, rfl, h3⟩⟩ rfl ?_
        refine rdk_skip 19 rfl (by kernel_rfl) ⟨_, rfl, .inl ⟨_, rfl, h3⟩⟩ rfl ?_
        refine rdk_skip 20 rfl (by kernel_rfl) ⟨_, rfl, .inr rfl⟩ rfl ?_
        refine rdk_skip 21 rfl (by kernel_rfl) ⟨_, rfl, .inr rfl⟩ rfl ?_
        refine rdk_skip 22 rfl (by kernel_rfl) ⟨_, rfl, .inr rfl⟩ rfl ?_
        refine rdk_skip 23 rfl (by kernel_rfl) ⟨_, rfl, .inl ⟨_, rfl, h3⟩⟩ rfl ?_
        refine rdk_take 24 rfl (by kernel_rfl) trivial (q_pick_f rfl h3 rfl) rfl ?_
        refine rdk_take 25 rfl (by kernel_rfl) trivial (q_move rfl) rfl ?_
        refine rdk_skip 26 rfl (by kernel_rfl) ⟨_, rfl, .inl ⟨_, rfl, rfl⟩⟩ rfl ?_
        refine rdk_skip 27 rfl (by kernel_rfl) ⟨_, rfl, .inl ⟨_, rfl, rfl⟩⟩ rfl ?_
        refine rdk_skip 28 rfl (by kernel_rfl) ⟨_, rfl, .inl ⟨_, rfl, rfl⟩⟩ rfl ?_
        refine rdk_take 29 rfl (by kernel_rfl) trivial (q_pick_f rfl rfl rfl) rfl ?_
        refine rdk_take 30 rfl (by kernel_rfl) trivial (q_move rfl) rfl ?_
        refine rdk_skip 31 rfl (by kernel_rfl) ⟨_, rfl, .inl ⟨_, rfl, rfl⟩⟩ rfl ?_
        refine rdk_skip 32 rfl (by kernel_rfl) ⟨_, rfl, .inl ⟨_, rfl, rfl⟩⟩ rfl ?_
        refine rdk_skip 33 rfl (by kernel_rfl) ⟨_, rfl, .inl ⟨_, rfl, rfl⟩⟩ rfl ?_
        refine rdk_skip 34 rfl (by kernel_rfl) ⟨_, rfl, .inl ⟨_, rfl, rfl⟩⟩ rfl ?_
        refine rdk_skip 35 rfl (by kernel_rfl) ⟨_, rfl, .inl ⟨_, rfl, rfl⟩⟩ rfl ?_
        refine rdk_skip 36 rfl (by kernel_rfl) ⟨_, rfl, .inl ⟨_, rfl, rfl⟩⟩ rfl ?_
        refine rdk_take 37 rfl (by kernel_rfl) trivial (q_pick_f rfl rfl rfl) rfl ?_
        refine rdk_take 38 rfl (by kernel_rfl) trivial (q_assign rfl) rfl ?_
        refine rdk_endq (by kernel_rfl) ?_
        (repeat first | refine et ?_ | refine eb ?_)
        (repeat refine sq ?_)
        refine ev_ret ?_
        (repeat first | refine evr_then ?_ | refine evr_blk ?_)
        refine ret_pure' ttOk rfl rfl ?_
        refine congrArg bR (?_ : _ = _)
        simp_all [headOk] <;> (intros; omega)
    · refine rdk_skip 11 rfl (by kernel_rfl) ⟨_, rfl, .inl ⟨_, rfl, h2⟩⟩ rfl ?_
      refine rdk_skip 12 rfl (by kernel_rfl) ⟨_, rfl, .inl ⟨_, rfl, h2⟩⟩ rfl ?_
      refine rdk_skip 13 rfl (by kernel_rfl) ⟨_, rfl, .inl ⟨_, rfl, h2⟩⟩ rfl ?_
      refine rdk_take 14 rfl (by kernel_rfl) trivial (q_pick_f rfl h2 rfl) rfl ?_
      refine rdk_take 15 rfl (by kernel_rfl) trivial (q_move rfl) rfl ?_
      refine rdk_skip 16 rfl (by kernel_rfl) ⟨_, rfl, .inl ⟨_, rfl, rfl⟩⟩ rfl ?_
      refine rdk_skip 17 rfl (by kernel_rfl) ⟨_, rfl, .inl ⟨_, rfl, rfl⟩⟩ rfl ?_
      refine rdk_skip 18 rfl (by kernel_rfl) ⟨_, rfl, .inl ⟨_, rfl, rfl⟩⟩ rfl ?_
      refine rdk_skip 19 rfl (by kernel_rfl) ⟨_, rfl, .inl ⟨_, rfl, rfl⟩⟩ rfl ?_
      refine rdk_skip 20 rfl (by kernel_rfl) ⟨_, rfl, .inr rfl⟩ rfl ?_
      refine rdk_skip 21 rfl (by kernel_rfl) ⟨_, rfl, .inr rfl⟩ rfl ?_
      refine rdk_skip 22 rfl (by kernel_rfl) ⟨_, rfl, .inr rfl⟩ rfl ?_
      refine rdk_skip 23 rfl (by kernel_rfl) ⟨_, rfl, .inl ⟨_, rfl, rfl⟩⟩ rfl ?_
      refine rdk_take 24 rfl (by kernel_rfl) trivial (q_pick_f rfl rfl rfl) rfl ?_
      refine rdk_take 25 rfl (by kernel_rfl) trivial (q_move rfl) rfl ?_
      refine rdk_skip 26 rfl (by kernel_rfl) ⟨_, rfl, .inl ⟨_, rfl, rfl⟩⟩ rfl ?_
      refine rdk_skip 27 rfl (by kernel_rfl) ⟨_, rfl, .inl ⟨_, rfl, rfl⟩⟩ rfl ?_
      refine rdk_skip 28 rfl (by kernel_rfl) ⟨_, rfl, .inl ⟨_, rfl, rfl⟩⟩ rfl ?_
      refine rdk_take 29 rfl (by kernel_rfl) trivial (q_pick_f rfl rfl rfl) rfl ?_
      refine rdk_take 30 rfl (by kernel_rfl) trivial (q_move rfl) rfl ?_
      refine rdk_skip 31 rfl (by kernel_rfl) ⟨_, rfl, .inl ⟨_, rfl, rfl⟩⟩ rfl ?_
      refine rdk_skip 32 rfl (by kernel_rfl) ⟨_, rfl, .inl ⟨_, rfl, rfl⟩⟩ rfl ?_
      refine rdk_skip 33 rfl (by kernel_rfl) ⟨_, rfl, .inl ⟨_, rfl, rfl⟩⟩ rfl ?_
      refine rdk_skip 34 rfl (by kernel_rfl) ⟨_, rfl, .inl ⟨_, rfl, rfl⟩⟩ rfl ?_
      refine rdk_skip 35 rfl (by kernel_rfl) ⟨_, rfl, .inl ⟨_, rfl, rfl⟩⟩ rfl ?_
      refine rdk_skip 36 rfl (by kernel_rfl) ⟨_, rfl, .inl ⟨_, rfl, rfl⟩⟩ rfl ?_
      refine rdk_take 37 rfl (by kernel_rfl) trivial (q_pick_f rfl rfl rfl) rfl ?_
      refine rdk_take 38 rfl (by kernel_rfl) trivial (q_assign rfl) rfl ?_
      refine rdk_endq (by kernel_rfl) ?_
      (repeat first | refine et ?_ | refine eb ?_)
      (repeat refine sq ?_)
      refine ev_ret ?_
      (repeat first | refine evr_then ?_ | refine evr_blk ?_)
      refine ret_pure' ttOk rfl rfl ?_
      refine congrArg bR (?_ : _ = _)
      simp_all [headOk] <;> (intros; omega)
  · refine rdk_skip 4 rfl (by kernel_rfl) ⟨_, rfl, .inl ⟨_, rfl, h1⟩⟩ rfl ?_
    refine rdk_skip 5 rfl (by kernel_rfl) ⟨_, rfl, .inl ⟨_, rfl, h1⟩⟩ rfl ?_
    refine rdk_skip 6 rfl (by kernel_rfl) ⟨_, rfl, .inl ⟨_, rfl, h1⟩⟩ rfl ?_
    refine rdk_skip 7 rfl (by kernel_rfl) ⟨_, rfl, .inl ⟨_, rfl, h1⟩⟩ rfl ?_
    refine rdk_skip 8 rfl (by kernel_rfl) ⟨_, rfl, .inl ⟨_, rfl, h1⟩⟩ rfl ?_
    refine rdk_take 9 rfl (by kernel_rfl) trivial (q_pick_f rfl h1 rfl) rfl ?_
    refine rdk_take 10 rfl (by kernel_rfl) trivial (q_move rfl) rfl ?_
    refine rdk_skip 11 rfl (by kernel_rfl) ⟨_, rfl, .inl ⟨_, rfl, rfl⟩⟩ rfl ?_
    refine rdk_skip 12 rfl (by kernel_rfl) ⟨_, rfl, .inl ⟨_, rfl, rfl⟩⟩ rfl ?_
    refine rdk_skip 13 rfl (by kernel_rfl) ⟨_, rfl, .inl ⟨_, rfl, rfl⟩⟩ rfl ?_
    refine rdk_take 14 rfl (by kernel_rfl) trivial (q_pick_f rfl rfl rfl) rfl ?_
    refine rdk_take 15 rfl (by kernel_rfl) trivial (q_move rfl) rfl ?_
    refine rdk_skip 16 rfl (by kernel_rfl) ⟨_, rfl, .inl ⟨_, rfl, rfl⟩⟩ rfl ?_
    refine rdk_skip 17 rfl (by kernel_rfl) ⟨_, rfl, .inl ⟨_, rfl, rfl⟩⟩ rfl ?_
    refine rdk_skip 18 rfl (by kernel_rfl) ⟨_, rfl, .inl ⟨_, rfl, rfl⟩⟩ rfl ?_
    refine rdk_skip 19 rfl (by kernel_rfl) ⟨_, rfl, .inl ⟨_, rfl, rfl⟩⟩ rfl ?_
    refine rdk_skip 20 rfl (by kernel_rfl) ⟨_, rfl, .inr rfl⟩ rfl ?_
    refine rdk_skip 21 rfl (by kernel_rfl) ⟨_, rfl, .inr rfl⟩ rfl ?_
    refine rdk_skip 22 rfl (by kernel_rfl) ⟨_, rfl, .inr rfl⟩ rfl ?_
    refine rdk_skip 23 rfl (by kernel_rfl) ⟨_, rfl, .inl ⟨_, rfl, rfl⟩⟩ rfl ?_
    refine rdk_take 24 rfl (by kernel_rfl) trivial (q_pick_f rfl rfl rfl) rfl ?_
    refine rdk_take 25 rfl (by kernel_rfl) trivial (q_move rfl) rfl ?_
    refine rdk_skip 26 rfl (by kernel_rfl) ⟨_, rfl, .inl ⟨_, rfl, rfl⟩⟩ rfl ?_
    refine rdk_skip 27 rfl (by kernel_rfl) ⟨_, rfl, .inl ⟨_, rfl, rfl⟩⟩ rfl ?_
    refine rdk_skip 28 rfl (by kernel_rfl) ⟨_, rfl, .inl ⟨_, rfl, rfl⟩⟩ rfl ?_
    refine rdk_take 29 rfl (by kernel_rfl) trivial (q_pick_f rfl rfl rfl) rfl ?_
    refine rdk_take 30 rfl (by kernel_rfl) trivial (q_move rfl) rfl ?_
    refine rdk_skip 31 rfl (by kernel_rfl) ⟨_, rfl, .inl ⟨_, rfl, rfl⟩⟩ rfl ?_
    refine rdk_skip 32 rfl (by kernel_rfl) ⟨_, rfl, .inl ⟨_, rfl, rfl⟩⟩ rfl ?_
    refine rdk_skip 33 rfl (by kernel_rfl) ⟨_, rfl, .inl ⟨_, rfl, rfl⟩⟩ rfl ?_
    refine rdk_skip 34 rfl (by kernel_rfl) ⟨_, rfl, .inl ⟨_, rfl, rfl⟩⟩ rfl ?_
    refine rdk_skip 35 rfl (by kernel_rfl) ⟨_, rfl, .inl ⟨_, rfl, rfl⟩⟩ rfl ?_
    refine rdk_skip 36 rfl (by kernel_rfl) ⟨_, rfl, .inl ⟨_, rfl, rfl⟩⟩ rfl ?_
    refine rdk_take 37 rfl (by kernel_rfl) trivial (q_pick_f rfl rfl rfl) rfl ?_
    refine rdk_take 38 rfl (by kernel_rfl) trivial (q_assign rfl) rfl ?_
    refine rdk_endq (by kernel_rfl) ?_
    (repeat first | refine et ?_ | refine eb ?_)
    (repeat refine sq ?_)
    refine ev_ret ?_
    (repeat first | refine evr_then ?_ | refine evr_blk ?_)
    refine ret_pure' ttOk rfl rfl ?_
    refine congrArg bR (?_ : _ = _)
    simp_all [headOk] <;> (intros; omega)
theorem c_HeadOk' (h : Head) : Pure Tryz.prog 85 [many (headC h)] (bR (headOk h)) := by
  refine pure_intro (N := 41) Tryz.func85 rfl rfl rfl rfl (fun H w => ?_)
  (repeat refine sq ?_)
  refine rg ?_
  refine evl_e (e_box rfl rfl rfl rfl) ?_
  refine xs rfl rfl ?_
  refine nl ?_
  (repeat first | refine et ?_ | refine eb ?_)
  (repeat refine sq ?_)
  refine ev_drawq [] mo ?_
  refine rdk_take 0 rfl (by kernel_rfl) trivial (q_fieldAddr ttOk rfl) rfl ?_
  refine rdk_take 1 rfl (by kernel_rfl) trivial (q_load ttOk rfl) rfl ?_
  refine rdk_one 2 (by kernel_rfl) ?_
  refine rdo_call (nm := 5) rfl trivial (cf rfl) (c_between _ _ _) (rs_of rfl) rfl rfl rfl ?_
  refine rdk_take 3 rfl (by kernel_rfl) trivial (q_move rfl) rfl ?_
  refine rdk_part (t := 6) rfl (fun h1 => ?_) (fun h1 => ?_)
  · refine rdk_take 4 rfl (by kernel_rfl) ⟨_, _, rfl, rfl, h1⟩ (q_fieldAddr ttOk rfl) rfl ?_
    refine rdk_take 5 rfl (by kernel_rfl) ⟨_, _, rfl, rfl, h1⟩ (q_load ttOk rfl) rfl ?_
    refine rdk_take 6 rfl (by kernel_rfl) ⟨_, _, rfl, rfl, h1⟩ (q_fieldAddr ttOk rfl) rfl ?_
    refine rdk_take 7 rfl (by kernel_rfl) ⟨_, _, rfl, rfl, h1⟩ (q_load ttOk rfl) rfl ?_
    refine rdk_one 8 (by kernel_rfl) ?_
    refine rdo_call (nm := 11) rfl ⟨_, _, rfl, rfl, h1⟩ (cf rfl) (c_between _ _ _) (rs_of rfl) rfl rfl rfl ?_
    refine rdk_take 9 rfl (by kernel_rfl) trivial (q_pick_t rfl h1 rfl) rfl ?_
    refine rdk_take 10 rfl (by kernel_rfl) trivial (q_move rfl) rfl ?_
    refine rdk_part (t := 13) rfl (fun h2 => ?_) (fun h2 => ?_)
    · refine rdk_take 11 rfl (by kernel_rfl) ⟨_, _, rfl, rfl, h2⟩ (q_fieldAddr ttOk rfl) rfl ?_
      refine rdk_take 12 rfl (by kernel_rfl) ⟨_, _, rfl, rfl, h2⟩ (q_load ttOk rfl) rfl ?_
      refine rdk_one 13 (by kernel_rfl) ?_
      refine rdo_call (nm := 16) rfl ⟨_, _, rfl, rfl, h2⟩ (cf rfl) (c_TimeOk' _) (rs_of rfl) rfl rfl rfl ?_
      refine rdk_take 14 rfl (by kernel_rfl) trivial (q_pick_t rfl h2 rfl) rfl ?_
      refine rdk_take 15 rfl (by kernel_rfl) trivial (q_move rfl) rfl ?_
      refine rdk_part (t := 18) rfl (fun h3 => ?_) (fun h3 => ?_)
      · refine rdk_take 16 rfl (by kernel_rfl) ⟨_, _, rfl, rfl, h3⟩ (q_fieldAddr ttOk rfl) rfl ?_
        refine rdk_take 17 rfl (by kernel_rfl) ⟨_, _, rfl, rfl, h3⟩ (q_load ttOk rfl) rfl ?_
        refine rdk_take 18 rfl (by kernel_rfl) ⟨_, _, rfl, rfl, h3⟩ (q_bin ttOk rfl) rfl ?_
        refine rdk_take 19 rfl (by kernel_rfl) ⟨_, _, rfl, rfl, h3⟩ (q_move rfl) rfl ?_
        refine rdk_part (t := 22) rfl (fun h4 => ?_) (fun h4 => ?_)
        · refine rdk_skip 20 rfl (by kernel_rfl) ⟨_, rfl, .inl ⟨_, rfl, h4⟩⟩ rfl ?_
          refine rdk_skip 21 rfl (by kernel_rfl) ⟨_, rfl, .inl ⟨_, rfl, h4⟩⟩ rfl ?_
          refine rdk_skip 22 rfl (by kernel_rfl) ⟨_, rfl, .inl ⟨_, rfl, h4⟩⟩ rfl ?_
          refine rdk_take 23 rfl (by kernel_rfl) ⟨_, _, rfl, rfl, h3⟩ (q_pick_t rfl h4 rfl) rfl ?_
          refine rdk_take 24 rfl (by kernel_rfl) trivial (q_pick_t rfl h3 rfl) rfl ?_
          refine rdk_take 25 rfl (by kernel_rfl) trivial (q_move rfl) rfl ?_
          refine rdk_take 26 rfl (by kernel_rfl) ⟨_, _, rfl, rfl, rfl⟩ (q_fieldAddr ttOk rfl) rfl ?_
          refine rdk_take 27 rfl (by kernel_rfl) ⟨_, _, rfl, rfl, rfl⟩ (q_load ttOk rfl) rfl ?_
          refine rdk_one 28 (by kernel_rfl) ?_
          refine rdo_call (nm := 31) rfl ⟨_, _, rfl, rfl, rfl⟩ (cf rfl) (c_SeenOk' _) (rs_of rfl) rfl rfl rfl ?_
          refine rdk_take 29 rfl (by kernel_rfl) trivial (q_pick_t rfl rfl rfl) rfl ?_
          refine rdk_take 30 rfl (by kernel_rfl) trivial (q_move rfl) rfl ?_
          refine rdk_part (t := 33) rfl (fun h5 => ?_) (fun h5 => ?_)
          · refine rdk_take 31 rfl (by kernel_rfl) ⟨_, _, rfl, rfl, h5⟩ (q_fieldAddr ttOk rfl) rfl ?_
            refine rdk_take 32 rfl (by kernel_rfl) ⟨_, _, rfl, rfl, h5⟩ (q_load ttOk rfl) rfl ?_
            refine rdk_take 34 rfl (by kernel_rfl) ⟨_, _, rfl, rfl, h5⟩ (q_fieldAddr ttOk rfl) rfl ?_
            refine rdk_take 35 rfl (by kernel_rfl) ⟨_, _, rfl, rfl, h5⟩ (q_load ttOk rfl) rfl ?_
            refine rdk_one 33 (by kernel_rfl) ?_
            refine rdo_call (nm := 36) rfl ⟨_, _, rfl, rfl, h5⟩ (cf rfl) (c_lastSeen _) (rs_of rfl) rfl rfl rfl ?_
            refine rdk_take 36 rfl (by kernel_rfl) ⟨_, _, rfl, rfl, h5⟩ (q_bin ttOk rfl) rfl ?_
            refine rdk_take 37 rfl (by kernel_rfl) trivial (q_pick_t rfl h5 rfl) rfl ?_
            refine rdk_take 38 rfl (by kernel_rfl) trivial (q_assign rfl) rfl ?_
            refine rdk_endq (by kernel_rfl) ?_
            (repeat first | refine et ?_ | refine eb ?_)
            (repeat refine sq ?_)
            refine ev_ret ?_
            (repeat first | refine evr_then ?_ | refine evr_blk ?_)
            refine ret_pure' ttOk rfl rfl ?_
            refine congrArg bR (?_ : _ = _)
            simp_all [headOk] <;> (intros; omega)
          · refine rdk_skip 31 rfl (by kernel_rfl) ⟨_, rfl, .inl ⟨_, rfl, h5⟩⟩ rfl ?_
            refine rdk_skip 32 rfl (by kernel_rfl) ⟨_, rfl, .inl ⟨_, rfl, h5⟩⟩ rfl ?_
            refine rdk_skip 33 rfl (by kernel_rfl) ⟨_, rfl, .inl ⟨_, rfl, h5⟩⟩ rfl ?_
            refine rdk_skip 34 rfl (by kernel_rfl) ⟨_, rfl, .inl ⟨_, rfl, h5⟩⟩ rfl ?_
            refine rdk_skip 35 rfl (by kernel_rfl) ⟨_, rfl, .inl ⟨_, rfl, h5⟩⟩ rfl ?_
            refine rdk_skip 36 rfl (by kernel_rfl) ⟨_, rfl, .inl ⟨_, rfl, h5⟩⟩ rfl ?_
            refine rdk_take 37 rfl (by kernel_rfl) trivial (q_pick_f rfl h5 rfl) rfl ?_
            refine rdk_take 38 rfl (by kernel_rfl) trivial (q_assign rfl) rfl ?_
            refine rdk_endq (by kernel_rfl) ?_
            (repeat first | refine et ?_ | refine eb ?_)
            (repeat refine sq ?_)
            refine ev_ret ?_
            (repeat first | refine evr_then ?_ | refine evr_blk ?_)
            refine ret_pure' ttOk rfl rfl ?_
            refine congrArg bR (?_ : _ = _)
            simp_all [headOk] <;> (intros; omega)
        · refine rdk_take 20 rfl (by kernel_rfl) ⟨_, _, rfl, rfl, h4⟩ (q_fieldAddr ttOk rfl) rfl ?_
          refine rdk_take 21 rfl (by kernel_rfl) ⟨_, _, rfl, rfl, h4⟩ (q_load ttOk rfl) rfl ?_
          refine rdk_take 22 rfl (by kernel_rfl) ⟨_, _, rfl, rfl, h4⟩ (q_bin ttOk rfl) rfl ?_
          refine rdk_take 23 rfl (by kernel_rfl) ⟨_, _, rfl, rfl, h3⟩ (q_pick_f rfl h4 rfl) rfl ?_
          refine rdk_take 24 rfl (by kernel_rfl) trivial (q_pick_t rfl h3 rfl) rfl ?_
          refine rdk_take 25 rfl (by kernel_rfl) trivial (q_move rfl) rfl ?_
          refine rdk_part (t := 28) rfl (fun h6 => ?_) (fun h6 => ?_)
          · refine rdk_take 26 rfl (by kernel_rfl) ⟨_, _, rfl, rfl, h6⟩ (q_fieldAddr ttOk rfl) rfl ?_
            refine rdk_take 27 rfl (by kernel_rfl) ⟨_, _, rfl, rfl, h6⟩ (q_load ttOk rfl) rfl ?_
            refine rdk_one 28 (by kernel_rfl) ?_
            refine rdo_call (nm := 31) rfl ⟨_, _, rfl, rfl, h6⟩ (cf rfl) (c_SeenOk' _) (rs_of rfl) rfl rfl rfl ?_
            refine rdk_take 29 rfl (by kernel_rfl) trivial (q_pick_t rfl h6 rfl) rfl ?_
            refine rdk_take 30 rfl (by kernel_rfl) trivial (q_move rfl) rfl ?_
            refine rdk_part (t := 33) rfl (fun h7 => ?_) (fun h7 => ?_)
            · refine rdk_take 31 rfl (by kernel_rfl) ⟨_, _, rfl, rfl, h7⟩ (q_fieldAddr ttOk rfl) rfl ?_
              refine rdk_take 32 rfl (by kernel_rfl) ⟨_, _, rfl, rfl, h7⟩ (q_load ttOk rfl) rfl ?_
              refine rdk_take 34 rfl (by kernel_rfl) ⟨_, _, rfl, rfl, h7⟩ (q_fieldAddr ttOk rfl) rfl ?_
              refine rdk_take 35 rfl (by kernel_rfl) ⟨_, _, rfl, rfl, h7⟩ (q_load ttOk rfl) rfl ?_
              refine rdk_one 33 (by kernel_rfl) ?_
              refine rdo_call (nm := 36) rfl ⟨_, _, rfl, rfl, h7⟩ (cf rfl) (c_lastSeen _) (rs_of rfl) rfl rfl rfl ?_
              refine rdk_take 36 rfl (by kernel_rfl) ⟨_, _, rfl, rfl, h7⟩ (q_bin ttOk rfl) rfl ?_
              refine rdk_take 37 rfl (by kernel_rfl) trivial (q_pick_t rfl h7 rfl) rfl ?_
              refine rdk_take 38 rfl (by kernel_rfl) trivial (q_assign rfl) rfl ?_
              refine rdk_endq (by kernel_rfl) ?_
              (repeat first | refine et ?_ | refine eb ?_)
              (repeat refine sq ?_)
              refine ev_ret ?_
              (repeat first | refine evr_then ?_ | refine evr_blk ?_)
              refine ret_pure' ttOk rfl rfl ?_
              refine congrArg bR (?_ : _ = _)
              simp_all [headOk] <;> (intros; omega)
            · refine rdk_skip 31 rfl (by kernel_rfl) ⟨_, rfl, .inl ⟨_, rfl, h7⟩⟩ rfl ?_
              refine rdk_skip 32 rfl (by kernel_rfl) ⟨_, rfl, .inl ⟨_, rfl, h7⟩⟩ rfl ?_
              refine rdk_skip 33 rfl (by kernel_rfl) ⟨_, rfl, .inl ⟨_, rfl, h7⟩⟩ rfl ?_
              refine rdk_skip 34 rfl (by kernel_rfl) ⟨_, rfl, .inl ⟨_, rfl, h7⟩⟩ rfl ?_
              refine rdk_skip 35 rfl (by kernel_rfl) ⟨_, rfl, .inl ⟨_, rfl, h7⟩⟩ rfl ?_
              refine rdk_skip 36 rfl (by kernel_rfl) ⟨_, rfl, .inl ⟨_, rfl, h7⟩⟩ rfl ?_
              refine rdk_take 37 rfl (by kernel_rfl) trivial (q_pick_f rfl h7 rfl) rfl ?_
              refine rdk_take 38 rfl (by kernel_rfl) trivial (q_assign rfl) rfl ?_
              refine rdk_endq (by kernel_rfl) ?_
              (repeat first | refine et ?_ | refine eb ?_)
              (repeat refine sq ?_)
              refine ev_ret ?_
              (repeat first | refine evr_then ?_ | refine evr_blk ?_)
              refine ret_pure' ttOk rfl rfl ?_
              refine congrArg bR (?_ : _ = _)
              simp_all [headOk] <;> (intros; omega)
          · refine rdk_skip 26 rfl (by kernel_rfl) ⟨_, rfl, .inl ⟨_, rfl, h6⟩⟩ rfl ?_
            refine rdk_skip 27 rfl (by kernel_rfl) ⟨_, rfl, .inl ⟨_, rfl, h6⟩⟩ rfl ?_
            refine rdk_skip 28 rfl (by kernel_rfl) ⟨_, rfl, .inl ⟨_, rfl, h6⟩⟩ rfl ?_
            refine rdk_take 29 rfl (by kernel_rfl) trivial (q_pick_f rfl h6 rfl) rfl ?_
            refine rdk_take 30 rfl (by kernel_rfl) trivial (q_move rfl) rfl ?_
            refine rdk_skip 31 rfl (by kernel_rfl) ⟨_, rfl, .inl ⟨_, rfl, rfl⟩⟩ rfl ?_
            refine rdk_skip 32 rfl (by kernel_rfl) ⟨_, rfl, .inl ⟨_, rfl, rfl⟩⟩ rfl ?_
            refine rdk_skip 33 rfl (by kernel_rfl) ⟨_, rfl, .inl ⟨_, rfl, rfl⟩⟩ rfl ?_
            refine rdk_skip 34 rfl (by kernel_rfl) ⟨_, rfl, .inl ⟨_, rfl, rfl⟩⟩ rfl ?_
            refine rdk_skip 35 rfl (by kernel_rfl) ⟨_, rfl, .inl ⟨_, rfl, rfl⟩⟩ rfl ?_
            refine rdk_skip 36 rfl (by kernel_rfl) ⟨_, rfl, .inl ⟨_, rfl, rfl⟩⟩ rfl ?_
            refine rdk_take 37 rfl (by kernel_rfl) trivial (q_pick_f rfl rfl rfl) rfl ?_
            refine rdk_take 38 rfl (by kernel_rfl) trivial (q_assign rfl) rfl ?_
            refine rdk_endq (by kernel_rfl) ?_
            (repeat first | refine et ?_ | refine eb ?_)
            (repeat refine sq ?_)
            refine ev_ret ?_
            (repeat first | refine evr_then ?_ | refine evr_blk ?_)
            refine ret_pure' ttOk rfl rfl ?_
            refine congrArg bR (?_ : _ = _)
            simp_all [headOk] <;> (intros; omega)
      · refine rdk_skip 16 rfl (by kernel_rfl) ⟨_, rfl, .inl ⟨_, rfl, h3⟩⟩ rfl ?_
        refine rdk_skip 17 rfl (by kernel_rfl) ⟨_, rfl, .inl ⟨_, rfl, h3⟩⟩ rfl ?_
        refine rdk_skip 18 rfl (by kernel_rfl) ⟨_, rfl, .inl ⟨_, rfl, h3⟩⟩ rfl ?_
        refine rdk_skip 19 rfl (by kernel_rfl) ⟨_, rfl, .inl ⟨_, rfl, h3⟩⟩ rfl ?_
        refine rdk_skip 20 rfl (by kernel_rfl) ⟨_, rfl, .inr rfl⟩ rfl ?_
        refine rdk_skip 21 rfl (by kernel_rfl) ⟨_, rfl, .inr rfl⟩ rfl ?_
        refine rdk_skip 22 rfl (by kernel_rfl) ⟨_, rfl, .inr rfl⟩ rfl ?_
        refine rdk_skip 23 rfl (by kernel_rfl) ⟨_, rfl, .inl ⟨_, rfl, h3⟩⟩ rfl ?_
        refine rdk_take 24 rfl (by kernel_rfl) trivial (q_pick_f rfl h3 rfl) rfl ?_
        refine rdk_take 25 rfl (by kernel_rfl) trivial (q_move rfl) rfl ?_
        refine rdk_skip 26 rfl (by kernel_rfl) ⟨_, rfl, .inl ⟨_, rfl, rfl⟩⟩ rfl ?_
        refine rdk_skip 27 rfl (by kernel_rfl) ⟨_, rfl, .inl ⟨_, rfl, rfl⟩⟩ rfl ?_
        refine rdk_skip 28 rfl (by kernel_rfl) ⟨_, rfl, .inl ⟨_, rfl, rfl⟩⟩ rfl ?_
        refine rdk_take 29 rfl (by kernel_rfl) trivial (q_pick_f rfl rfl rfl) rfl ?_
        refine rdk_take 30 rfl (by kernel_rfl) trivial (q_move rfl) rfl ?_
        refine rdk_skip 31 rfl (by kernel_rfl) ⟨_, rfl, .inl ⟨_, rfl, rfl⟩⟩ rfl ?_
        refine rdk_skip 32 rfl (by kernel_rfl) ⟨_, rfl, .inl ⟨_, rfl, rfl⟩⟩ rfl ?_
        refine rdk_skip 33 rfl (by kernel_rfl) ⟨_, rfl, .inl ⟨_, rfl, rfl⟩⟩ rfl ?_
        refine rdk_skip 34 rfl (by kernel_rfl) ⟨_, rfl, .inl ⟨_, rfl, rfl⟩⟩ rfl ?_
        refine rdk_skip 35 rfl (by kernel_rfl) ⟨_, rfl, .inl ⟨_, rfl, rfl⟩⟩ rfl ?_
        refine rdk_skip 36 rfl (by kernel_rfl) ⟨_, rfl, .inl ⟨_, rfl, rfl⟩⟩ rfl ?_
        refine rdk_take 37 rfl (by kernel_rfl) trivial (q_pick_f rfl rfl rfl) rfl ?_
        refine rdk_take 38 rfl (by kernel_rfl) trivial (q_assign rfl) rfl ?_
        refine rdk_endq (by kernel_rfl) ?_
        (repeat first | refine et ?_ | refine eb ?_)
        (repeat refine sq ?_)
        refine ev_ret ?_
        (repeat first | refine evr_then ?_ | refine evr_blk ?_)
        refine ret_pure' ttOk rfl rfl ?_
        refine congrArg bR (?_ : _ = _)
        simp_all [headOk] <;> (intros; omega)
    · refine rdk_skip 11 rfl (by kernel_rfl) ⟨_, rfl, .inl ⟨_, rfl, h2⟩⟩ rfl ?_
      refine rdk_skip 12 rfl (by kernel_rfl) ⟨_, rfl, .inl ⟨_, rfl, h2⟩⟩ rfl ?_
      refine rdk_skip 13 rfl (by kernel_rfl) ⟨_, rfl, .inl ⟨_, rfl, h2⟩⟩ rfl ?_
      refine rdk_take 14 rfl (by kernel_rfl) trivial (q_pick_f rfl h2 rfl) rfl ?_
      refine rdk_take 15 rfl (by kernel_rfl) trivial (q_move rfl) rfl ?_
      refine rdk_skip 16 rfl (by kernel_rfl) ⟨_, rfl, .inl ⟨_, rfl, rfl⟩⟩ rfl ?_
      refine rdk_skip 17 rfl (by kernel_rfl) ⟨_, rfl, .inl ⟨_, rfl, rfl⟩⟩ rfl ?_
      refine rdk_skip 18 rfl (by kernel_rfl) ⟨_, rfl, .inl ⟨_, rfl, rfl⟩⟩ rfl ?_
      refine rdk_skip 19 rfl (by kernel_rfl) ⟨_, rfl, .inl ⟨_, rfl, rfl⟩⟩ rfl ?_
      refine rdk_skip 20 rfl (by kernel_rfl) ⟨_, rfl, .inr rfl⟩ rfl ?_
      refine rdk_skip 21 rfl (by kernel_rfl) ⟨_, rfl, .inr rfl⟩ rfl ?_
      refine rdk_skip 22 rfl (by kernel_rfl) ⟨_, rfl, .inr rfl⟩ rfl ?_
      refine rdk_skip 23 rfl (by kernel_rfl) ⟨_, rfl, .inl ⟨_, rfl, rfl⟩⟩ rfl ?_
      refine rdk_take 24 rfl (by kernel_rfl) trivial (q_pick_f rfl rfl rfl) rfl ?_
      refine rdk_take 25 rfl (by kernel_rfl) trivial (q_move rfl) rfl ?_
      refine rdk_skip 26 rfl (by kernel_rfl) ⟨_, rfl, .inl ⟨_, rfl, rfl⟩⟩ rfl ?_
      refine rdk_skip 27 rfl (by kernel_rfl) ⟨_, rfl, .inl ⟨_, rfl, rfl⟩⟩ rfl ?_
      refine rdk_skip 28 rfl (by kernel_rfl) ⟨_, rfl, .inl ⟨_, rfl, rfl⟩⟩ rfl ?_
      refine rdk_take 29 rfl (by kernel_rfl) trivial (q_pick_f rfl rfl rfl) rfl ?_
      refine rdk_take 30 rfl (by kernel_rfl) trivial (q_move rfl) rfl ?_
      refine rdk_skip 31 rfl (by kernel_rfl) ⟨_, rfl, .inl ⟨_, rfl, rfl⟩⟩ rfl ?_
      refine rdk_skip 32 rfl (by kernel_rfl) ⟨_, rfl, .inl ⟨_, rfl, rfl⟩⟩ rfl ?_
      refine rdk_skip 33 rfl (by kernel_rfl) ⟨_, rfl, .inl ⟨_, rfl, rfl⟩⟩ rfl ?_
      refine rdk_skip 34 rfl (by kernel_rfl) ⟨_, rfl, .inl ⟨_, rfl, rfl⟩⟩ rfl ?_
      refine rdk_skip 35 rfl (by kernel_rfl) ⟨_, rfl, .inl ⟨_, rfl, rfl⟩⟩ rfl ?_
      refine rdk_skip 36 rfl (by kernel_rfl) ⟨_, rfl, .inl ⟨_, rfl, rfl⟩⟩ rfl ?_
      refine rdk_take 37 rfl (by kernel_rfl) trivial (q_pick_f rfl rfl rfl) rfl ?_
      refine rdk_take 38 rfl (by kernel_rfl) trivial (q_assign rfl) rfl ?_
      refine rdk_endq (by kernel_rfl) ?_
      (repeat first | refine et ?_ | refine eb ?_)
      (repeat refine sq ?_)
      refine ev_ret ?_
      (repeat first | refine evr_then ?_ | refine evr_blk ?_)
      refine ret_pure' ttOk rfl rfl ?_
      refine congrArg bR (?_ : _ = _)
      simp_all [headOk] <;> (intros; omega)
  · refine rdk_skip 4 rfl (by kernel_rfl) ⟨_, rfl, .inl ⟨_, rfl, h1⟩⟩ rfl ?_
    refine rdk_skip 5 rfl (by kernel_rfl) ⟨_, rfl, .inl ⟨_, rfl, h1⟩⟩ rfl ?_
    refine rdk_skip 6 rfl (by kernel_rfl) ⟨_, rfl, .inl ⟨_, rfl, h1⟩⟩ rfl ?_
    refine rdk_skip 7 rfl (by kernel_rfl) ⟨_, rfl, .inl ⟨_, rfl, h1⟩⟩ rfl ?_
    refine rdk_skip 8 rfl (by kernel_rfl) ⟨_, rfl, .inl ⟨_, rfl, h1⟩⟩ rfl ?_
    refine rdk_take 9 rfl (by kernel_rfl) trivial (q_pick_f rfl h1 rfl) rfl ?_
    refine rdk_take 10 rfl (by kernel_rfl) trivial (q_move rfl) rfl ?_
    refine rdk_skip 11 rfl (by kernel_rfl) ⟨_, rfl, .inl ⟨_, rfl, rfl⟩⟩ rfl ?_
    refine rdk_skip 12 rfl (by kernel_rfl) ⟨_, rfl, .inl ⟨_, rfl, rfl⟩⟩ rfl ?_
    refine rdk_skip 13 rfl (by kernel_rfl) ⟨_, rfl, .inl ⟨_, rfl, rfl⟩⟩ rfl ?_
    refine rdk_take 14 rfl (by kernel_rfl) trivial (q_pick_f rfl rfl rfl) rfl ?_
    refine rdk_take 15 rfl (by kernel_rfl) trivial (q_move rfl) rfl ?_
    refine rdk_skip 16 rfl (by kernel_rfl) ⟨_, rfl, .inl ⟨_, rfl, rfl⟩⟩ rfl ?_
    refine rdk_skip 17 rfl (by kernel_rfl) ⟨_, rfl, .inl ⟨_, rfl, rfl⟩⟩ rfl ?_
    refine rdk_skip 18 rfl (by kernel_rfl) ⟨_, rfl, .inl ⟨_, rfl, rfl⟩⟩ rfl ?_
    refine rdk_skip 19 rfl (by kernel_rfl) ⟨_, rfl, .inl ⟨_, rfl, rfl⟩⟩ rfl ?_
    refine rdk_skip 20 rfl (by kernel_rfl) ⟨_, rfl, .inr rfl⟩ rfl ?_
    refine rdk_skip 21 rfl (by kernel_rfl) ⟨_, rfl, .inr rfl⟩ rfl ?_
    refine rdk_skip 22 rfl (by kernel_rfl) ⟨_, rfl, .inr rfl⟩ rfl ?_
    refine rdk_skip 23 rfl (by kernel_rfl) ⟨_, rfl, .inl ⟨_, rfl, rfl⟩⟩ rfl ?_
    refine rdk_take 24 rfl (by kernel_rfl) trivial (q_pick_f rfl rfl rfl) rfl ?_
    refine rdk_take 25 rfl (by kernel_rfl) trivial (q_move rfl) rfl ?_
    refine rdk_skip 26 rfl (by kernel_rfl) ⟨_, rfl, .inl ⟨_, rfl, rfl⟩⟩ rfl ?_
    refine rdk_skip 27 rfl (by kernel_rfl) ⟨_, rfl, .inl ⟨_, rfl, rfl⟩⟩ rfl ?_
    refine rdk_skip 28 rfl (by kernel_rfl) ⟨_, rfl, .inl ⟨_, rfl, rfl⟩⟩ rfl ?_
    refine rdk_take 29 rfl (by kernel_rfl) trivial (q_pick_f rfl rfl rfl) rfl ?_
    refine rdk_take 30 rfl (by kernel_rfl) trivial (q_move rfl) rfl ?_
    refine rdk_skip 31 rfl (by kernel_rfl) ⟨_, rfl, .inl ⟨_, rfl, rfl⟩⟩ rfl ?_
    refine rdk_skip 32 rfl (by kernel_rfl) ⟨_, rfl, .inl ⟨_, rfl, rfl⟩⟩ rfl ?_
    refine rdk_skip 33 rfl (by kernel_rfl) ⟨_, rfl, .inl ⟨_, rfl, rfl⟩⟩ rfl ?_
    refine rdk_skip 34 rfl (by kernel_rfl) ⟨_, rfl, .inl ⟨_, rfl, rfl⟩⟩ rfl ?_
    refine rdk_skip 35 rfl (by kernel_rfl) ⟨_, rfl, .inl ⟨_, rfl, rfl⟩⟩ rfl ?_
    refine rdk_skip 36 rfl (by kernel_rfl) ⟨_, rfl, .inl ⟨_, rfl, rfl⟩⟩ rfl ?_
    refine rdk_take 37 rfl (by kernel_rfl) trivial (q_pick_f rfl rfl rfl) rfl ?_
    refine rdk_take 38 rfl (by kernel_rfl) trivial (q_assign rfl) rfl ?_
    refine rdk_endq (by kernel_rfl) ?_
    (repeat first | refine et ?_ | refine eb ?_)
    (repeat refine sq ?_)
    refine ev_ret ?_
    (repeat first | refine evr_then ?_ | refine evr_blk ?_)
    refine ret_pure' ttOk rfl rfl ?_
    refine congrArg bR (?_ : _ = _)
    simp_all [headOk] <;> (intros; omega)
def slotM (l : List Int) (i : Nat) : List Mark := if l.getD (3 + 2 * i) 0 ≠ 0 ∨ l.getD (4 + 2 * i) 0 ≠ 0 then [⟨2 + i, l.getD (3 + 2 * i) 0, l.getD (4 + 2 * i) 0⟩] else []
def seenUp (l : List Int) : Nat → List Mark
  | 0 => []
  | k + 1 => seenUp l k ++ slotM l k
def noHead : Head := ⟨0, 0, 0, []⟩
def headOf (l : List Int) : Head := ⟨l.getD 0 0, l.getD 1 0, l.getD 2 0, seenUp l 4⟩
def rowHeadF (l : List Int) : Option Head := if l.length = 13 ∧ headOk (headOf l) = true ∧ l.getD 11 0 = l.getD 0 0 ∧ l.getD 12 0 = l.getD 0 0 then some (headOf l) else none
theorem getD_at {l : List Int} {k : Nat} (hk : k < l.length) : l.getD k 0 = l[k] := by simp [hk]
theorem slot_some {l : List Int} {k : Nat} (h1 : 3 + 2 * k < l.length) (h2 : 4 + 2 * k < l.length) (h : l[3 + 2 * k] ≠ 0 ∨ l[4 + 2 * k] ≠ 0) : (seenUp l k).map markC ++ [[iC (2 + k), iC l[3 + 2 * k], iC l[4 + 2 * k]]] = (seenUp l (k + 1)).map markC := by
  have : slotM l k = [⟨2 + k, l[3 + 2 * k], l[4 + 2 * k]⟩] := by unfold slotM; rw [getD_at h1, getD_at h2, if_pos h]
  simp [seenUp, this]
theorem slot_none {l : List Int} {k : Nat} (h1 : 3 + 2 * k < l.length) (h2 : 4 + 2 * k < l.length) (h3 : l[3 + 2 * k] = 0) (h4 : l[4 + 2 * k] = 0) : (seenUp l k).map markC = (seenUp l (k + 1)).map markC := by
  have : slotM l k = [] := by unfold slotM; rw [getD_at h1, getD_at h2, if_neg (by simp [h3, h4])]
  simp [seenUp, this]
theorem seenUp_len (l : List Int) : ∀ k, (seenUp l k).length ≤ k
  | 0 => by simp [seenUp]
  | k + 1 => by
    have := seenUp_len l k
    simp only [seenUp, List.length_append, slotM]
    split <;> simp <;> omega
theorem headOf_eq {l : List Int} (h : l.length = 13) : headOf l = ⟨l[0], l[1], l[2], seenUp l 4⟩ := by
  unfold headOf
  rw [getD_at (by omega : 0 < l.length), getD_at (by omega : 1 < l.length), getD_at (by omega : 2 < l.length)]
theorem rh_no1 {l : List Int} (h : l.length ≠ 13) : rowHeadF l = none := if_neg fun hh => h hh.1
theorem rh_no2 {l : List Int} (h : headOk (headOf l) = false) : rowHeadF l = none := if_neg fun hh => by rw [hh.2.1] at h; cases h
theorem rh_no3 {l : List Int} (hl : l.length = 13) (h : l[11] ≠ l[0]) : rowHeadF l = none := if_neg fun hh => h (by have := hh.2.2.1; rwa [getD_at (by omega : 11 < l.length), getD_at (by omega : 0 < l.length)] at this)
theorem rh_no4 {l : List Int} (hl : l.length = 13) (h : l[12] ≠ l[0]) : rowHeadF l = none := if_neg fun hh => h (by have := hh.2.2.2; rwa [getD_at (by omega : 12 < l.length), getD_at (by omega : 0 < l.length)] at this)
theorem rh_yes {l : List Int} (hl : l.length = 13) (h1 : headOk (headOf l) = true) (h2 : l[11] = l[0]) (h3 : l[12] = l[0]) : rowHeadF l = some (headOf l) := if_pos ⟨hl, h1, by rw [getD_at (by omega : 11 < l.length), getD_at (by omega : 0 < l.length), h2], by rw [getD_at (by omega : 12 < l.length), getD_at (by omega : 0 < l.length), h3]⟩
theorem c_RowHead' (l : List Int) : Pure Tryz.prog 193 [one (ints l)] [many' (headR ((rowHeadF l).getD noHead)), one' (RC.v (.bool (rowHeadF l).isSome))] := by
  refine pure_intro (N := 75) Tryz.func193 rfl rfl rfl rfl (fun H w => ?_)
  (repeat refine sq ?_)
  refine rg ?_
  refine evl_e (e_alloc ttOk rfl rfl rfl rfl) ?_
  refine xs rfl rfl ?_
  refine nl ?_
  (repeat first | refine et ?_ | refine eb ?_)
  (repeat refine sq ?_)
  refine rg ?_
  refine xm rfl rfl ?_
  refine xo (q_len_map ttOk rfl rfl) rfl ?_
  refine xb ttOk rfl rfl ?_
  refine nl ?_
  (repeat first | refine et ?_ | refine eb ?_)
  (repeat refine sq ?_)
  refine ev_cond rfl (fun h1 => ?_) (fun h1 => ?_)
  · try have d1 := of_decide_eq_true h1
    (repeat refine sq ?_)
    refine rg ?_
    refine xo (q_build ttOk rfl) rfl ?_
    refine xst ttOk rfl ?_ rfl
    refine xs rfl rfl ?_
    refine nl ?_
    (repeat first | refine et ?_ | refine eb ?_)
    (repeat refine sq ?_)
    refine ev_ret ?_
    (repeat first | refine evr_then ?_ | refine evr_blk ?_)
    refine ret_pureN ttOk rfl rfl ?_
    rw [rh_no1 (by omega)]; simp [RpLe, L2, RcLe, noHead]
  · try have d1 := of_decide_eq_false h1
    (repeat refine sq ?_)
    refine ev_skip ?_
    (repeat first | refine et ?_ | refine eb ?_)
    (repeat refine sq ?_)
    refine ev_drawq [11] mo ?_
    refine rdk_take 0 rfl (by kernel_rfl) trivial (q_move rfl) rfl ?_
    refine rdk_take 1 rfl (by kernel_rfl) trivial (q_ix_map (m := 0) ttOk rfl rfl rfl (by omega) (by omega)) rfl ?_
    refine rdk_take 2 rfl (by kernel_rfl) trivial (q_load ttOk rfl) rfl ?_
    refine rdk_take 3 rfl (by kernel_rfl) trivial (q_move rfl) rfl ?_
    refine rdk_take 4 rfl (by kernel_rfl) trivial (q_ix_map (m := 1) ttOk rfl rfl rfl (by omega) (by omega)) rfl ?_
    refine rdk_take 5 rfl (by kernel_rfl) trivial (q_load ttOk rfl) rfl ?_
    refine rdk_take 6 rfl (by kernel_rfl) trivial (q_move rfl) rfl ?_
    refine rdk_take 7 rfl (by kernel_rfl) trivial (q_ix_map (m := 2) ttOk rfl rfl rfl (by omega) (by omega)) rfl ?_
    refine rdk_take 8 rfl (by kernel_rfl) trivial (q_load ttOk rfl) rfl ?_
    refine rdk_take 9 rfl (by kernel_rfl) trivial (q_build ttOk rfl) rfl ?_
    refine rdk_one 10 (by kernel_rfl) ?_
    refine rdo_new rfl trivial (e_alloc ttOk rfl rfl rfl rfl) ?_
    refine rdk_one 11 (by kernel_rfl) ?_
    refine rdo_brk rfl rfl trivial (e_store ttOk rfl) ?_
    refine rdb_endq (by kernel_rfl) ?_
    (repeat first | refine et ?_ | refine eb ?_)
    (repeat refine sq ?_)
    refine ev_adopt (b := 4) 3 101 156 3 rfl rfl rfl rfl rfl ?_
    refine rg ?_
    refine xs rfl rfl ?_
    refine nl ?_
    (repeat first | refine et ?_ | refine eb ?_)
    (repeat refine sq ?_)
    refine ev_blk ?_
    (repeat refine sq ?_)
    refine ev_loop (fun k : Nat => (⟨[(5, iV k), (0, cV (ints l)), (2, pbV 2 0), (3, bV false), (4, pbV 4 0)], [(4, 30, [.c (iC (l[0]'(by omega))), .c (iC (l[1]'(by omega))), .c (iC (l[2]'(by omega))), .rt 101]), (2, 30, [.c (iC 0), .c (iC 0), .c (iC 0), .c .nil])], [(101, 156, 3, ((seenUp l k).map markC))], []⟩ : St)) (fun k => k ≤ 4) (fun k => 4 - k) 0 [] (by simp) ⟨by (repeat first | exact trivial | refine ⟨rfl, ?_⟩), by (repeat first | exact trivial | refine ⟨rfl, ?_⟩), ⟨⟨_, rfl, by rfl⟩, trivial⟩, by (repeat first | exact trivial | refine ⟨⟨_, rfl, rfl⟩, ?_⟩), rfl⟩ ?_
    intro k hp
    have p0 := hp
    show Ev _ _ _ _ (⟨[(5, iV k), (0, cV (ints l)), (2, pbV 2 0), (3, bV false), (4, pbV 4 0)], [(4, 30, [.c (iC (l[0]'(by omega))), .c (iC (l[1]'(by omega))), .c (iC (l[2]'(by omega))), .rt 101]), (2, 30, [.c (iC 0), .c (iC 0), .c (iC 0), .c .nil])], [(101, 156, 3, ((seenUp l k).map markC))], []⟩ : St)
    (repeat refine sq ?_)
    refine rg ?_
    refine xm rfl rfl ?_
    refine xb ttOk rfl rfl ?_
    refine nl ?_
    (repeat first | refine et ?_ | refine eb ?_)
    (repeat refine sq ?_)
    refine ev_cond rfl (fun h2 => ?_) (fun h2 => ?_)
    · try have d2 := of_decide_eq_true h2
      (repeat refine sq ?_)
      refine ev_skip ?_
      (repeat first | refine et ?_ | refine eb ?_)
      (repeat refine sq ?_)
      refine ev_blk ?_
      (repeat refine sq ?_)
      refine ev_drawq [] mo ?_
      refine rdk_take 0 rfl (by kernel_rfl) trivial (q_move rfl) rfl ?_
      refine rdk_take 1 rfl (by kernel_rfl) trivial (q_move rfl) rfl ?_
      refine rdk_take 2 rfl (by kernel_rfl) trivial (q_ar rfl rfl rfl (by omega)) rfl ?_
      refine rdk_take 3 rfl (by kernel_rfl) trivial (q_ar rfl rfl rfl (by omega)) rfl ?_
      refine rdk_take 4 rfl (by kernel_rfl) trivial (q_ix_map (m := 3 + 2 * k) ttOk rfl rfl rfl (by omega) (by omega)) rfl ?_
      refine rdk_take 5 rfl (by kernel_rfl) trivial (q_load ttOk rfl) rfl ?_
      refine rdk_take 6 rfl (by kernel_rfl) trivial (q_move rfl) rfl ?_
      refine rdk_take 7 rfl (by kernel_rfl) trivial (q_move rfl) rfl ?_
      refine rdk_take 8 rfl (by kernel_rfl) trivial (q_ar rfl rfl rfl (by omega)) rfl ?_
      refine rdk_take 9 rfl (by kernel_rfl) trivial (q_ar rfl rfl rfl (by omega)) rfl ?_
      refine rdk_take 10 rfl (by kernel_rfl) trivial (q_ix_map (m := 4 + 2 * k) ttOk rfl rfl rfl (by omega) (by omega)) rfl ?_
      refine rdk_take 11 rfl (by kernel_rfl) trivial (q_load ttOk rfl) rfl ?_
      refine rdk_take 12 rfl (by kernel_rfl) trivial (q_assign rfl) rfl ?_
      refine rdk_take 13 rfl (by kernel_rfl) trivial (q_assign rfl) rfl ?_
      refine rdk_endq (by kernel_rfl) ?_
      (repeat first | refine et ?_ | refine eb ?_)
      (repeat refine sq ?_)
      refine rg ?_
      refine xm rfl rfl ?_
      refine xb ttOk rfl rfl ?_
      refine xm rfl rfl ?_
      refine evl_part rfl rfl (fun h3 => ?_) (fun h3 => ?_)
      · try have d3 := of_decide_eq_true h3
        refine gn h3 rfl rfl rfl ?_
        refine gn h3 rfl rfl rfl ?_
        refine xo (q_pick_t rfl h3 rfl) rfl ?_
        refine nl ?_
        (repeat first | refine et ?_ | refine eb ?_)
        (repeat refine sq ?_)
        refine ev_cond_kt rfl rfl ?_
        (repeat refine sq ?_)
        have hsu := seenUp_len l k
        refine rg ?_
        refine xf ttOk rfl rfl ?_
        refine xl ttOk rfl rfl ?_
        refine xm rfl rfl ?_
        refine xa rfl rfl rfl (by omega) rfl ?_
        refine xm rfl rfl ?_
        refine xm rfl rfl ?_
        refine xo (q_build ttOk rfl) rfl ?_
        refine evl_e (e_lit ttOk rfl rfl rfl) ?_
        refine evl_e (e_app ttOk rfl rfl rfl rfl rfl rfl rfl (by first | (simp; done) | (simp; omega)) rfl rfl) ?_
        refine xf ttOk rfl rfl ?_
        refine xst ttOk rfl ?_ rfl
        refine nl ?_
        (repeat first | refine et ?_ | refine eb ?_)
        (repeat refine sq ?_)
        refine rg ?_
        refine xm rfl rfl ?_
        refine xa rfl rfl rfl (by omega) rfl ?_
        refine xs rfl rfl ?_
        refine nl ?_
        (repeat first | refine et ?_ | refine eb ?_)
        (repeat first | refine et ?_ | refine eb ?_)
        refine eve_round (k + 1) [(101, 52)] ?hp ⟨by (repeat first | exact trivial | refine ⟨rfl, ?_⟩), by (repeat first | exact trivial | refine ⟨rfl, ?_⟩), ⟨⟨_, rfl, by exact slot_some (by omega) (by omega) (by first | exact .inl (by assumption) | exact .inr (by assumption))⟩, trivial⟩, by (repeat first | exact trivial | refine ⟨⟨_, rfl, rfl⟩, ?_⟩), rfl⟩
        case hp => exact ⟨by omega, by omega⟩
      · try have d3 := of_decide_eq_false h3
        refine gm h3 rfl rfl rfl rfl ?_
        refine go h3 rfl rfl (q_bin ttOk rfl) rfl ?_
        refine xo (q_pick_f rfl h3 rfl) rfl ?_
        refine nl ?_
        (repeat first | refine et ?_ | refine eb ?_)
        (repeat refine sq ?_)
        refine ev_cond rfl (fun h4 => ?_) (fun h4 => ?_)
        · try have d4 := of_decide_eq_true h4
          (repeat refine sq ?_)
          have hsu := seenUp_len l k
          refine rg ?_
          refine xf ttOk rfl rfl ?_
          refine xl ttOk rfl rfl ?_
          refine xm rfl rfl ?_
          refine xa rfl rfl rfl (by omega) rfl ?_
          refine xm rfl rfl ?_
          refine xm rfl rfl ?_
          refine xo (q_build ttOk rfl) rfl ?_
          refine evl_e (e_lit ttOk rfl rfl rfl) ?_
          refine evl_e (e_app ttOk rfl rfl rfl rfl rfl rfl rfl (by first | (simp; done) | (simp; omega)) rfl rfl) ?_
          refine xf ttOk rfl rfl ?_
          refine xst ttOk rfl ?_ rfl
          refine nl ?_
          (repeat first | refine et ?_ | refine eb ?_)
          (repeat refine sq ?_)
          refine rg ?_
          refine xm rfl rfl ?_
          refine xa rfl rfl rfl (by omega) rfl ?_
          refine xs rfl rfl ?_
          refine nl ?_
          (repeat first | refine et ?_ | refine eb ?_)
          (repeat first | refine et ?_ | refine eb ?_)
          refine eve_round (k + 1) [(101, 52)] ?hp ⟨by (repeat first | exact trivial | refine ⟨rfl, ?_⟩), by (repeat first | exact trivial | refine ⟨rfl, ?_⟩), ⟨⟨_, rfl, by exact slot_some (by omega) (by omega) (by first | exact .inl (by assumption) | exact .inr (by assumption))⟩, trivial⟩, by (repeat first | exact trivial | refine ⟨⟨_, rfl, rfl⟩, ?_⟩), rfl⟩
          case hp => exact ⟨by omega, by omega⟩
        · try have d4 := of_decide_eq_false h4
          (repeat refine sq ?_)
          refine ev_skip ?_
          (repeat first | refine et ?_ | refine eb ?_)
          (repeat refine sq ?_)
          refine rg ?_
          refine xm rfl rfl ?_
          refine xa rfl rfl rfl (by omega) rfl ?_
          refine xs rfl rfl ?_
          refine nl ?_
          (repeat first | refine et ?_ | refine eb ?_)
          (repeat first | refine et ?_ | refine eb ?_)
          refine eve_round (k + 1) [] ?hp ⟨by (repeat first | exact trivial | refine ⟨rfl, ?_⟩), by (repeat first | exact trivial | refine ⟨rfl, ?_⟩), ⟨⟨_, rfl, by exact slot_none (by omega) (by omega) (by omega) (by omega)⟩, trivial⟩, by (repeat first | exact trivial | refine ⟨⟨_, rfl, rfl⟩, ?_⟩), rfl⟩
          case hp => exact ⟨by omega, by omega⟩
    · try have d2 := of_decide_eq_false h2
      (repeat refine sq ?_)
      refine ev_exit ?_
      (repeat first | refine evx_then ?_ | refine evx_hit ?_ | refine evx_miss rfl ?_)
      (repeat first | refine et ?_ | refine eb ?_)
      (repeat refine sq ?_)
      obtain rfl : k = 4 := by omega
      have hl : l.length = 13 := by omega
      have hhd := headOf_eq hl
      refine ev_drawq [] mo ?_
      refine rdk_take 0 rfl (by kernel_rfl) trivial (q_load ttOk rfl) rfl ?_
      refine rdk_one 1 (by kernel_rfl) ?_
      refine rdo_call (nm := 55) rfl trivial (cf rfl) (c_HeadOk' ⟨_, _, _, _⟩) (rs_of rfl) rfl rfl rfl ?_
      refine rdk_take 2 rfl (by kernel_rfl) trivial (q_not rfl) rfl ?_
      refine rdk_take 3 rfl (by kernel_rfl) trivial (q_move rfl) rfl ?_
      refine rdk_partn (t := 57) rfl (fun h5 => ?_) (fun h5 => ?_)
      · try have d5 := of_decide_eq_false h5
        refine rdk_skip 4 rfl (by kernel_rfl) ⟨_, rfl, .inl ⟨_, rfl, (nt h5)⟩⟩ rfl ?_
        refine rdk_skip 5 rfl (by kernel_rfl) ⟨_, rfl, .inl ⟨_, rfl, (nt h5)⟩⟩ rfl ?_
        refine rdk_skip 6 rfl (by kernel_rfl) ⟨_, rfl, .inl ⟨_, rfl, (nt h5)⟩⟩ rfl ?_
        refine rdk_skip 7 rfl (by kernel_rfl) ⟨_, rfl, .inl ⟨_, rfl, (nt h5)⟩⟩ rfl ?_
        refine rdk_skip 8 rfl (by kernel_rfl) ⟨_, rfl, .inl ⟨_, rfl, (nt h5)⟩⟩ rfl ?_
        refine rdk_skip 9 rfl (by kernel_rfl) ⟨_, rfl, .inl ⟨_, rfl, (nt h5)⟩⟩ rfl ?_
        refine rdk_take 10 rfl (by kernel_rfl) trivial (q_pick_t rfl (nt h5) rfl) rfl ?_
        refine rdk_take 11 rfl (by kernel_rfl) trivial (q_move rfl) rfl ?_
        refine rdk_skip 12 rfl (by kernel_rfl) ⟨_, rfl, .inl ⟨_, rfl, rfl⟩⟩ rfl ?_
        refine rdk_skip 13 rfl (by kernel_rfl) ⟨_, rfl, .inl ⟨_, rfl, rfl⟩⟩ rfl ?_
        refine rdk_skip 14 rfl (by kernel_rfl) ⟨_, rfl, .inl ⟨_, rfl, rfl⟩⟩ rfl ?_
        refine rdk_skip 15 rfl (by kernel_rfl) ⟨_, rfl, .inl ⟨_, rfl, rfl⟩⟩ rfl ?_
        refine rdk_skip 16 rfl (by kernel_rfl) ⟨_, rfl, .inl ⟨_, rfl, rfl⟩⟩ rfl ?_
        refine rdk_skip 17 rfl (by kernel_rfl) ⟨_, rfl, .inl ⟨_, rfl, rfl⟩⟩ rfl ?_
        refine rdk_take 18 rfl (by kernel_rfl) trivial (q_pick_t rfl rfl rfl) rfl ?_
        refine rdk_endq (by kernel_rfl) ?_
        (repeat first | refine et ?_ | refine eb ?_)
        (repeat refine sq ?_)
        refine ev_cond_kt rfl rfl ?_
        (repeat refine sq ?_)
        refine rg ?_
        refine xo (q_build ttOk rfl) rfl ?_
        refine xst ttOk rfl ?_ rfl
        refine xs rfl rfl ?_
        refine nl ?_
        (repeat first | refine et ?_ | refine eb ?_)
        (repeat refine sq ?_)
        refine ev_ret ?_
        (repeat first | refine evr_then ?_ | refine evr_blk ?_)
        refine ret_pureN ttOk rfl rfl ?_
        rw [rh_no2 (by rw [hhd]; assumption)]; simp [RpLe, L2, RcLe, noHead]
      · try have d5 := of_decide_eq_true h5
        refine rdk_take 4 rfl (by kernel_rfl) ⟨_, _, rfl, rfl, (nf h5)⟩ (q_move rfl) rfl ?_
        refine rdk_take 5 rfl (by kernel_rfl) ⟨_, _, rfl, rfl, (nf h5)⟩ (q_ix_map (m := 11) ttOk rfl rfl rfl (by omega) (by omega)) rfl ?_
        refine rdk_take 6 rfl (by kernel_rfl) ⟨_, _, rfl, rfl, (nf h5)⟩ (q_load ttOk rfl) rfl ?_
        refine rdk_take 7 rfl (by kernel_rfl) ⟨_, _, rfl, rfl, (nf h5)⟩ (q_fieldAddr ttOk rfl) rfl ?_
        refine rdk_take 8 rfl (by kernel_rfl) ⟨_, _, rfl, rfl, (nf h5)⟩ (q_load ttOk rfl) rfl ?_
        refine rdk_take 9 rfl (by kernel_rfl) ⟨_, _, rfl, rfl, (nf h5)⟩ (q_bin ttOk rfl) rfl ?_
        refine rdk_take 10 rfl (by kernel_rfl) trivial (q_pick_f rfl (nf h5) rfl) rfl ?_
        refine rdk_take 11 rfl (by kernel_rfl) trivial (q_move rfl) rfl ?_
        refine rdk_part (t := 65) rfl (fun h6 => ?_) (fun h6 => ?_)
        · try have d6 := of_decide_eq_true h6
          refine rdk_skip 12 rfl (by kernel_rfl) ⟨_, rfl, .inl ⟨_, rfl, h6⟩⟩ rfl ?_
          refine rdk_skip 13 rfl (by kernel_rfl) ⟨_, rfl, .inl ⟨_, rfl, h6⟩⟩ rfl ?_
          refine rdk_skip 14 rfl (by kernel_rfl) ⟨_, rfl, .inl ⟨_, rfl, h6⟩⟩ rfl ?_
          refine rdk_skip 15 rfl (by kernel_rfl) ⟨_, rfl, .inl ⟨_, rfl, h6⟩⟩ rfl ?_
          refine rdk_skip 16 rfl (by kernel_rfl) ⟨_, rfl, .inl ⟨_, rfl, h6⟩⟩ rfl ?_
          refine rdk_skip 17 rfl (by kernel_rfl) ⟨_, rfl, .inl ⟨_, rfl, h6⟩⟩ rfl ?_
          refine rdk_take 18 rfl (by kernel_rfl) trivial (q_pick_t rfl h6 rfl) rfl ?_
          refine rdk_endq (by kernel_rfl) ?_
          (repeat first | refine et ?_ | refine eb ?_)
          (repeat refine sq ?_)
          refine ev_cond_kt rfl rfl ?_
          (repeat refine sq ?_)
          refine rg ?_
          refine xo (q_build ttOk rfl) rfl ?_
          refine xst ttOk rfl ?_ rfl
          refine xs rfl rfl ?_
          refine nl ?_
          (repeat first | refine et ?_ | refine eb ?_)
          (repeat refine sq ?_)
          refine ev_ret ?_
          (repeat first | refine evr_then ?_ | refine evr_blk ?_)
          refine ret_pureN ttOk rfl rfl ?_
          rw [rh_no3 hl (by assumption)]; simp [RpLe, L2, RcLe, noHead]
        · try have d6 := of_decide_eq_false h6
          refine rdk_take 12 rfl (by kernel_rfl) ⟨_, _, rfl, rfl, h6⟩ (q_move rfl) rfl ?_
          refine rdk_take 13 rfl (by kernel_rfl) ⟨_, _, rfl, rfl, h6⟩ (q_ix_map (m := 12) ttOk rfl rfl rfl (by omega) (by omega)) rfl ?_
          refine rdk_take 14 rfl (by kernel_rfl) ⟨_, _, rfl, rfl, h6⟩ (q_load ttOk rfl) rfl ?_
          refine rdk_take 15 rfl (by kernel_rfl) ⟨_, _, rfl, rfl, h6⟩ (q_fieldAddr ttOk rfl) rfl ?_
          refine rdk_take 16 rfl (by kernel_rfl) ⟨_, _, rfl, rfl, h6⟩ (q_load ttOk rfl) rfl ?_
          refine rdk_take 17 rfl (by kernel_rfl) ⟨_, _, rfl, rfl, h6⟩ (q_bin ttOk rfl) rfl ?_
          refine rdk_take 18 rfl (by kernel_rfl) trivial (q_pick_f rfl h6 rfl) rfl ?_
          refine rdk_endq (by kernel_rfl) ?_
          (repeat first | refine et ?_ | refine eb ?_)
          (repeat refine sq ?_)
          refine ev_cond rfl (fun h7 => ?_) (fun h7 => ?_)
          · try have d7 := of_decide_eq_true h7
            (repeat refine sq ?_)
            refine rg ?_
            refine xo (q_build ttOk rfl) rfl ?_
            refine xst ttOk rfl ?_ rfl
            refine xs rfl rfl ?_
            refine nl ?_
            (repeat first | refine et ?_ | refine eb ?_)
            (repeat refine sq ?_)
            refine ev_ret ?_
            (repeat first | refine evr_then ?_ | refine evr_blk ?_)
            refine ret_pureN ttOk rfl rfl ?_
            rw [rh_no4 hl (by assumption)]; simp [RpLe, L2, RcLe, noHead]
          · try have d7 := of_decide_eq_false h7
            (repeat refine sq ?_)
            refine ev_skip ?_
            (repeat first | refine et ?_ | refine eb ?_)
            (repeat refine sq ?_)
            refine rg ?_
            refine xl ttOk rfl rfl ?_
            refine xst ttOk rfl ?_ rfl
            refine xs rfl rfl ?_
            refine nl ?_
            (repeat first | refine et ?_ | refine eb ?_)
            (repeat refine sq ?_)
            refine ev_ret ?_
            (repeat first | refine evr_then ?_ | refine evr_blk ?_)
            refine ret_pure' ttOk rfl rfl ?_
            rw [rh_yes hl (by rw [hhd]; assumption) (by omega) (by omega), hhd]; rfl
theorem c_RowHead (l : List Int) : Pure Tryz.prog 186 [one (ints l)] [many' (headR ((rowHeadF l).getD noHead)), one' (RC.v (.bool (rowHeadF l).isSome))] := by
  refine pure_intro (N := 75) Tryz.func186 rfl rfl rfl rfl (fun H w => ?_)
  (repeat refine sq ?_)
  refine rg ?_
  refine evl_e (e_alloc ttOk rfl rfl rfl rfl) ?_
  refine xs rfl rfl ?_
  refine nl ?_
  (repeat first | refine et ?_ | refine eb ?_)
  (repeat refine sq ?_)
  refine ev_drawq [] mo ?_
  refine rdk_take 0 rfl (by kernel_rfl) trivial (q_move rfl) rfl ?_
  refine rdk_take 1 rfl (by kernel_rfl) trivial (q_len_map ttOk rfl rfl) rfl ?_
  refine rdk_take 2 rfl (by kernel_rfl) trivial (q_bin ttOk rfl) rfl ?_
  refine rdk_take 3 rfl (by kernel_rfl) trivial (q_move rfl) rfl ?_
  refine rdk_part (t := 10) rfl (fun h1 => ?_) (fun h1 => ?_)
  · try have d1 := of_decide_eq_true h1
    refine rdk_skip 4 rfl (by kernel_rfl) ⟨_, rfl, .inl ⟨_, rfl, h1⟩⟩ rfl ?_
    refine rdk_skip 5 rfl (by kernel_rfl) ⟨_, rfl, .inl ⟨_, rfl, h1⟩⟩ rfl ?_
    refine rdk_skip 6 rfl (by kernel_rfl) ⟨_, rfl, .inl ⟨_, rfl, h1⟩⟩ rfl ?_
    refine rdk_skip 7 rfl (by kernel_rfl) ⟨_, rfl, .inl ⟨_, rfl, h1⟩⟩ rfl ?_
    refine rdk_skip 8 rfl (by kernel_rfl) ⟨_, rfl, .inl ⟨_, rfl, h1⟩⟩ rfl ?_
    refine rdk_skip 9 rfl (by kernel_rfl) ⟨_, rfl, .inl ⟨_, rfl, h1⟩⟩ rfl ?_
    refine rdk_skip 10 rfl (by kernel_rfl) ⟨_, rfl, .inl ⟨_, rfl, h1⟩⟩ rfl ?_
    refine rdk_take 11 rfl (by kernel_rfl) trivial (q_pick_t rfl h1 rfl) rfl ?_
    refine rdk_take 12 rfl (by kernel_rfl) trivial (q_move rfl) rfl ?_
    refine rdk_skip 13 rfl (by kernel_rfl) ⟨_, rfl, .inl ⟨_, rfl, rfl⟩⟩ rfl ?_
    refine rdk_skip 14 rfl (by kernel_rfl) ⟨_, rfl, .inl ⟨_, rfl, rfl⟩⟩ rfl ?_
    refine rdk_skip 15 rfl (by kernel_rfl) ⟨_, rfl, .inl ⟨_, rfl, rfl⟩⟩ rfl ?_
    refine rdk_skip 16 rfl (by kernel_rfl) ⟨_, rfl, .inl ⟨_, rfl, rfl⟩⟩ rfl ?_
    refine rdk_skip 17 rfl (by kernel_rfl) ⟨_, rfl, .inl ⟨_, rfl, rfl⟩⟩ rfl ?_
    refine rdk_skip 18 rfl (by kernel_rfl) ⟨_, rfl, .inl ⟨_, rfl, rfl⟩⟩ rfl ?_
    refine rdk_skip 19 rfl (by kernel_rfl) ⟨_, rfl, .inl ⟨_, rfl, rfl⟩⟩ rfl ?_
    refine rdk_take 20 rfl (by kernel_rfl) trivial (q_pick_t rfl rfl rfl) rfl ?_
    refine rdk_endq (by kernel_rfl) ?_
    (repeat first | refine et ?_ | refine eb ?_)
    (repeat refine sq ?_)
    refine ev_cond_kt rfl rfl ?_
    (repeat refine sq ?_)
    refine rg ?_
    refine xo (q_build ttOk rfl) rfl ?_
    refine xst ttOk rfl ?_ rfl
    refine xs rfl rfl ?_
    refine nl ?_
    (repeat first | refine et ?_ | refine eb ?_)
    (repeat refine sq ?_)
    refine ev_ret ?_
    (repeat first | refine evr_then ?_ | refine evr_blk ?_)
    refine ret_pureN ttOk rfl rfl ?_
    first
    | (rw [rh_no1 (by omega)]; simp [RpLe, L2, RcLe, noHead]; done)
    | (rw [rh_no2 (by rw [hhd]; assumption)]; simp [RpLe, L2, RcLe, noHead]; done)
    | (rw [rh_no3 (by omega) (by assumption)]; simp [RpLe, L2, RcLe, noHead]; done)
    | (rw [rh_no4 (by omega) (by assumption)]; simp [RpLe, L2, RcLe, noHead]; done)
    | (rw [rh_yes hl (by rw [hhd]; assumption) (by omega) (by omega), hhd]; exact ⟨⟨rfl, rfl, rfl, rfl, rfl, trivial⟩, ⟨rfl, rfl, trivial⟩, trivial⟩)
  · try have d1 := of_decide_eq_false h1
    refine rdk_take 4 rfl (by kernel_rfl) ⟨_, _, rfl, rfl, h1⟩ (q_move rfl) rfl ?_
    refine rdk_take 5 rfl (by kernel_rfl) ⟨_, _, rfl, rfl, h1⟩ (q_ix_map (m := 11) ttOk rfl rfl rfl (by omega) (by omega)) rfl ?_
    refine rdk_take 6 rfl (by kernel_rfl) ⟨_, _, rfl, rfl, h1⟩ (q_load ttOk rfl) rfl ?_
    refine rdk_take 7 rfl (by kernel_rfl) ⟨_, _, rfl, rfl, h1⟩ (q_move rfl) rfl ?_
    refine rdk_take 8 rfl (by kernel_rfl) ⟨_, _, rfl, rfl, h1⟩ (q_ix_map (m := 0) ttOk rfl rfl rfl (by omega) (by omega)) rfl ?_
    refine rdk_take 9 rfl (by kernel_rfl) ⟨_, _, rfl, rfl, h1⟩ (q_load ttOk rfl) rfl ?_
    refine rdk_take 10 rfl (by kernel_rfl) ⟨_, _, rfl, rfl, h1⟩ (q_bin ttOk rfl) rfl ?_
    refine rdk_take 11 rfl (by kernel_rfl) trivial (q_pick_f rfl h1 rfl) rfl ?_
    refine rdk_take 12 rfl (by kernel_rfl) trivial (q_move rfl) rfl ?_
    refine rdk_part (t := 19) rfl (fun h2 => ?_) (fun h2 => ?_)
    · try have d2 := of_decide_eq_true h2
      refine rdk_skip 13 rfl (by kernel_rfl) ⟨_, rfl, .inl ⟨_, rfl, h2⟩⟩ rfl ?_
      refine rdk_skip 14 rfl (by kernel_rfl) ⟨_, rfl, .inl ⟨_, rfl, h2⟩⟩ rfl ?_
      refine rdk_skip 15 rfl (by kernel_rfl) ⟨_, rfl, .inl ⟨_, rfl, h2⟩⟩ rfl ?_
      refine rdk_skip 16 rfl (by kernel_rfl) ⟨_, rfl, .inl ⟨_, rfl, h2⟩⟩ rfl ?_
      refine rdk_skip 17 rfl (by kernel_rfl) ⟨_, rfl, .inl ⟨_, rfl, h2⟩⟩ rfl ?_
      refine rdk_skip 18 rfl (by kernel_rfl) ⟨_, rfl, .inl ⟨_, rfl, h2⟩⟩ rfl ?_
      refine rdk_skip 19 rfl (by kernel_rfl) ⟨_, rfl, .inl ⟨_, rfl, h2⟩⟩ rfl ?_
      refine rdk_take 20 rfl (by kernel_rfl) trivial (q_pick_t rfl h2 rfl) rfl ?_
      refine rdk_endq (by kernel_rfl) ?_
      (repeat first | refine et ?_ | refine eb ?_)
      (repeat refine sq ?_)
      refine ev_cond_kt rfl rfl ?_
      (repeat refine sq ?_)
      refine rg ?_
      refine xo (q_build ttOk rfl) rfl ?_
      refine xst ttOk rfl ?_ rfl
      refine xs rfl rfl ?_
      refine nl ?_
      (repeat first | refine et ?_ | refine eb ?_)
      (repeat refine sq ?_)
      refine ev_ret ?_
      (repeat first | refine evr_then ?_ | refine evr_blk ?_)
      refine ret_pureN ttOk rfl rfl ?_
      first
      | (rw [rh_no1 (by omega)]; simp [RpLe, L2, RcLe, noHead]; done)
      | (rw [rh_no2 (by rw [hhd]; assumption)]; simp [RpLe, L2, RcLe, noHead]; done)
      | (rw [rh_no3 (by omega) (by assumption)]; simp [RpLe, L2, RcLe, noHead]; done)
      | (rw [rh_no4 (by omega) (by assumption)]; simp [RpLe, L2, RcLe, noHead]; done)
      | (rw [rh_yes hl (by rw [hhd]; assumption) (by omega) (by omega), hhd]; exact ⟨⟨rfl, rfl, rfl, rfl, rfl, trivial⟩, ⟨rfl, rfl, trivial⟩, trivial⟩)
    · try have d2 := of_decide_eq_false h2
      refine rdk_take 13 rfl (by kernel_rfl) ⟨_, _, rfl, rfl, h2⟩ (q_move rfl) rfl ?_
      refine rdk_take 14 rfl (by kernel_rfl) ⟨_, _, rfl, rfl, h2⟩ (q_ix_map (m := 12) ttOk rfl rfl rfl (by omega) (by omega)) rfl ?_
      refine rdk_take 15 rfl (by kernel_rfl) ⟨_, _, rfl, rfl, h2⟩ (q_load ttOk rfl) rfl ?_
      refine rdk_take 16 rfl (by kernel_rfl) ⟨_, _, rfl, rfl, h2⟩ (q_move rfl) rfl ?_
      refine rdk_take 17 rfl (by kernel_rfl) ⟨_, _, rfl, rfl, h2⟩ (q_ix_map (m := 0) ttOk rfl rfl rfl (by omega) (by omega)) rfl ?_
      refine rdk_take 18 rfl (by kernel_rfl) ⟨_, _, rfl, rfl, h2⟩ (q_load ttOk rfl) rfl ?_
      refine rdk_take 19 rfl (by kernel_rfl) ⟨_, _, rfl, rfl, h2⟩ (q_bin ttOk rfl) rfl ?_
      refine rdk_take 20 rfl (by kernel_rfl) trivial (q_pick_f rfl h2 rfl) rfl ?_
      refine rdk_endq (by kernel_rfl) ?_
      (repeat first | refine et ?_ | refine eb ?_)
      (repeat refine sq ?_)
      refine ev_cond rfl (fun h3 => ?_) (fun h3 => ?_)
      · try have d3 := of_decide_eq_true h3
        (repeat refine sq ?_)
        refine rg ?_
        refine xo (q_build ttOk rfl) rfl ?_
        refine xst ttOk rfl ?_ rfl
        refine xs rfl rfl ?_
        refine nl ?_
        (repeat first | refine et ?_ | refine eb ?_)
        (repeat refine sq ?_)
        refine ev_ret ?_
        (repeat first | refine evr_then ?_ | refine evr_blk ?_)
        refine ret_pureN ttOk rfl rfl ?_
        first
        | (rw [rh_no1 (by omega)]; simp [RpLe, L2, RcLe, noHead]; done)
        | (rw [rh_no2 (by rw [hhd]; assumption)]; simp [RpLe, L2, RcLe, noHead]; done)
        | (rw [rh_no3 (by omega) (by assumption)]; simp [RpLe, L2, RcLe, noHead]; done)
        | (rw [rh_no4 (by omega) (by assumption)]; simp [RpLe, L2, RcLe, noHead]; done)
        | (rw [rh_yes hl (by rw [hhd]; assumption) (by omega) (by omega), hhd]; exact ⟨⟨rfl, rfl, rfl, rfl, rfl, trivial⟩, ⟨rfl, rfl, trivial⟩, trivial⟩)
      · try have d3 := of_decide_eq_false h3
        (repeat refine sq ?_)
        refine ev_skip ?_
        (repeat first | refine et ?_ | refine eb ?_)
        (repeat refine sq ?_)
        refine ev_drawq [11] mo ?_
        refine rdk_take 0 rfl (by kernel_rfl) trivial (q_move rfl) rfl ?_
        refine rdk_take 1 rfl (by kernel_rfl) trivial (q_ix_map (m := 0) ttOk rfl rfl rfl (by omega) (by omega)) rfl ?_
        refine rdk_take 2 rfl (by kernel_rfl) trivial (q_load ttOk rfl) rfl ?_
        refine rdk_take 3 rfl (by kernel_rfl) trivial (q_move rfl) rfl ?_
        refine rdk_take 4 rfl (by kernel_rfl) trivial (q_ix_map (m := 1) ttOk rfl rfl rfl (by omega) (by omega)) rfl ?_
        refine rdk_take 5 rfl (by kernel_rfl) trivial (q_load ttOk rfl) rfl ?_
        refine rdk_take 6 rfl (by kernel_rfl) trivial (q_move rfl) rfl ?_
        refine rdk_take 7 rfl (by kernel_rfl) trivial (q_ix_map (m := 2) ttOk rfl rfl rfl (by omega) (by omega)) rfl ?_
        refine rdk_take 8 rfl (by kernel_rfl) trivial (q_load ttOk rfl) rfl ?_
        refine rdk_take 9 rfl (by kernel_rfl) trivial (q_build ttOk rfl) rfl ?_
        refine rdk_one 10 (by kernel_rfl) ?_
        refine rdo_new rfl trivial (e_alloc ttOk rfl rfl rfl rfl) ?_
        refine rdk_one 11 (by kernel_rfl) ?_
        refine rdo_brk rfl rfl trivial (e_store ttOk rfl) ?_
        refine rdb_endq (by kernel_rfl) ?_
        (repeat first | refine et ?_ | refine eb ?_)
        (repeat refine sq ?_)
        refine ev_adopt (b := 4) 3 101 156 3 rfl rfl rfl rfl rfl ?_
        refine rg ?_
        refine xs rfl rfl ?_
        refine nl ?_
        (repeat first | refine et ?_ | refine eb ?_)
        (repeat refine sq ?_)
        refine ev_blk ?_
        (repeat refine sq ?_)
        refine ev_loop (fun i : Nat × Int => (⟨[(5, iV i.2), (0, cV (ints l)), (2, pbV 2 0), (3, bV false), (4, pbV 4 0)], [(4, 30, [.c (iC (l[0]'(by omega))), .c (iC (l[1]'(by omega))), .c (iC (l[2]'(by omega))), .rt 101]), (2, 30, [.c (iC 0), .c (iC 0), .c (iC 0), .c .nil])], [(101, 156, 3, ((seenUp l i.1).map markC))], []⟩ : St)) (fun i => i.1 ≤ 4 ∧ i.2 = (i.1 : Int) + 2) (fun i => 4 - i.1) (0, 2) [] (⟨by simp, rfl⟩) ⟨by (repeat first | exact trivial | refine ⟨rfl, ?_⟩), by (repeat first | exact trivial | refine ⟨rfl, ?_⟩), ⟨⟨_, rfl, by rfl⟩, trivial⟩, by (repeat first | exact trivial | refine ⟨⟨_, rfl, rfl⟩, ?_⟩), rfl⟩ ?_
        intro i hp
        obtain ⟨k, z⟩ := i
        have hp : k ≤ 4 ∧ z = (k : Int) + 2 := hp
        obtain ⟨p0, p1⟩ := hp
        show Ev _ _ _ _ (⟨[(5, iV z), (0, cV (ints l)), (2, pbV 2 0), (3, bV false), (4, pbV 4 0)], [(4, 30, [.c (iC (l[0]'(by omega))), .c (iC (l[1]'(by omega))), .c (iC (l[2]'(by omega))), .rt 101]), (2, 30, [.c (iC 0), .c (iC 0), .c (iC 0), .c .nil])], [(101, 156, 3, ((seenUp l k).map markC))], []⟩ : St)
        (repeat refine sq ?_)
        refine rg ?_
        refine xm rfl rfl ?_
        refine xb ttOk rfl rfl ?_
        refine nl ?_
        (repeat first | refine et ?_ | refine eb ?_)
        (repeat refine sq ?_)
        refine ev_cond rfl (fun h4 => ?_) (fun h4 => ?_)
        · try have d4 := of_decide_eq_true h4
          (repeat refine sq ?_)
          refine ev_skip ?_
          (repeat first | refine et ?_ | refine eb ?_)
          (repeat refine sq ?_)
          refine ev_blk ?_
          (repeat refine sq ?_)
          refine ev_drawq [14] mo ?_
          refine rdk_take 0 rfl (by kernel_rfl) trivial (q_move rfl) rfl ?_
          refine rdk_take 1 rfl (by kernel_rfl) trivial (q_move rfl) rfl ?_
          refine rdk_take 2 rfl (by kernel_rfl) trivial (q_move rfl) rfl ?_
          refine rdk_take 3 rfl (by kernel_rfl) trivial (q_ar rfl rfl rfl (by omega)) rfl ?_
          refine rdk_take 4 rfl (by kernel_rfl) trivial (q_ar rfl rfl rfl (by omega)) rfl ?_
          refine rdk_take 5 rfl (by kernel_rfl) trivial (q_ix_map (m := 3 + 2 * k) ttOk rfl rfl rfl (by omega) (by omega)) rfl ?_
          refine rdk_take 6 rfl (by kernel_rfl) trivial (q_load ttOk rfl) rfl ?_
          refine rdk_take 7 rfl (by kernel_rfl) trivial (q_move rfl) rfl ?_
          refine rdk_take 8 rfl (by kernel_rfl) trivial (q_move rfl) rfl ?_
          refine rdk_take 9 rfl (by kernel_rfl) trivial (q_ar rfl rfl rfl (by omega)) rfl ?_
          refine rdk_take 10 rfl (by kernel_rfl) trivial (q_ix_map (m := 4 + 2 * k) ttOk rfl rfl rfl (by omega) (by omega)) rfl ?_
          refine rdk_take 11 rfl (by kernel_rfl) trivial (q_load ttOk rfl) rfl ?_
          refine rdk_take 12 rfl (by kernel_rfl) trivial (q_build ttOk rfl) rfl ?_
          refine rdk_one 13 (by kernel_rfl) ?_
          refine rdo_new rfl trivial (e_alloc ttOk rfl rfl rfl rfl) ?_
          refine rdk_one 14 (by kernel_rfl) ?_
          refine rdo_brk rfl rfl trivial (e_store ttOk rfl) ?_
          refine rdb_endq (by kernel_rfl) ?_
          (repeat first | refine et ?_ | refine eb ?_)
          (repeat refine sq ?_)
          refine rg ?_
          refine xf ttOk rfl rfl ?_
          refine xl ttOk rfl rfl ?_
          refine xb ttOk rfl rfl ?_
          refine xm rfl rfl ?_
          refine evl_part rfl rfl (fun h5 => ?_) (fun h5 => ?_)
          · try have d5 := of_decide_eq_true h5
            refine gn h5 rfl rfl rfl ?_
            refine gn h5 rfl rfl rfl ?_
            refine gn h5 rfl rfl rfl ?_
            refine xo (q_pick_t rfl h5 rfl) rfl ?_
            refine nl ?_
            (repeat first | refine et ?_ | refine eb ?_)
            (repeat refine sq ?_)
            refine ev_cond_kt rfl rfl ?_
            (repeat refine sq ?_)
            have hsu := seenUp_len l k
            refine rg ?_
            refine xf ttOk rfl rfl ?_
            refine xl ttOk rfl rfl ?_
            refine xl ttOk rfl rfl ?_
            refine evl_e (e_lit ttOk rfl rfl rfl) ?_
            refine evl_e (e_app ttOk rfl rfl rfl rfl rfl rfl rfl (by first | (simp; done) | (simp; omega)) rfl rfl) ?_
            refine xf ttOk rfl rfl ?_
            refine xst ttOk rfl ?_ rfl
            refine nl ?_
            (repeat first | refine et ?_ | refine eb ?_)
            (repeat refine sq ?_)
            refine rg ?_
            refine xm rfl rfl ?_
            refine xa rfl rfl rfl (by omega) rfl ?_
            refine xs rfl rfl ?_
            refine nl ?_
            (repeat first | refine et ?_ | refine eb ?_)
            (repeat first | refine et ?_ | refine eb ?_)
            refine eve_round (k + 1, _) [(101, 68)] ?hp ⟨by (repeat first | exact trivial | refine ⟨rfl, ?_⟩), by (repeat first | exact trivial | refine ⟨rfl, ?_⟩), ⟨⟨_, rfl, by (have hh := slot_some (l := l) (k := k) (by omega) (by omega) (by first | exact .inl (by assumption) | exact .inr (by assumption)); rw [show (2 : Int) + k = z by omega] at hh; exact hh)⟩, trivial⟩, by (repeat first | exact trivial | refine ⟨⟨_, rfl, rfl⟩, ?_⟩), rfl⟩
            case hp => exact ⟨⟨by omega, by omega⟩, by omega⟩
          · try have d5 := of_decide_eq_false h5
            refine go h5 rfl rfl (q_fieldAddr ttOk rfl) rfl ?_
            refine go h5 rfl rfl (q_load ttOk rfl) rfl ?_
            refine go h5 rfl rfl (q_bin ttOk rfl) rfl ?_
            refine xo (q_pick_f rfl h5 rfl) rfl ?_
            refine nl ?_
            (repeat first | refine et ?_ | refine eb ?_)
            (repeat refine sq ?_)
            refine ev_cond rfl (fun h6 => ?_) (fun h6 => ?_)
            · try have d6 := of_decide_eq_true h6
              (repeat refine sq ?_)
              have hsu := seenUp_len l k
              refine rg ?_
              refine xf ttOk rfl rfl ?_
              refine xl ttOk rfl rfl ?_
              refine xl ttOk rfl rfl ?_
              refine evl_e (e_lit ttOk rfl rfl rfl) ?_
              refine evl_e (e_app ttOk rfl rfl rfl rfl rfl rfl rfl (by first | (simp; done) | (simp; omega)) rfl rfl) ?_
              refine xf ttOk rfl rfl ?_
              refine xst ttOk rfl ?_ rfl
              refine nl ?_
              (repeat first | refine et ?_ | refine eb ?_)
              (repeat refine sq ?_)
              refine rg ?_
              refine xm rfl rfl ?_
              refine xa rfl rfl rfl (by omega) rfl ?_
              refine xs rfl rfl ?_
              refine nl ?_
              (repeat first | refine et ?_ | refine eb ?_)
              (repeat first | refine et ?_ | refine eb ?_)
              refine eve_round (k + 1, _) [(101, 68)] ?hp ⟨by (repeat first | exact trivial | refine ⟨rfl, ?_⟩), by (repeat first | exact trivial | refine ⟨rfl, ?_⟩), ⟨⟨_, rfl, by (have hh := slot_some (l := l) (k := k) (by omega) (by omega) (by first | exact .inl (by assumption) | exact .inr (by assumption)); rw [show (2 : Int) + k = z by omega] at hh; exact hh)⟩, trivial⟩, by (repeat first | exact trivial | refine ⟨⟨_, rfl, rfl⟩, ?_⟩), rfl⟩
              case hp => exact ⟨⟨by omega, by omega⟩, by omega⟩
            · try have d6 := of_decide_eq_false h6
              (repeat refine sq ?_)
              refine ev_skip ?_
              (repeat first | refine et ?_ | refine eb ?_)
              (repeat refine sq ?_)
              refine rg ?_
              refine xm rfl rfl ?_
              refine xa rfl rfl rfl (by omega) rfl ?_
              refine xs rfl rfl ?_
              refine nl ?_
              (repeat first | refine et ?_ | refine eb ?_)
              (repeat first | refine et ?_ | refine eb ?_)
              refine eve_round (k + 1, _) [] ?hp ⟨by (repeat first | exact trivial | refine ⟨rfl, ?_⟩), by (repeat first | exact trivial | refine ⟨rfl, ?_⟩), ⟨⟨_, rfl, by exact slot_none (by omega) (by omega) (by omega) (by omega)⟩, trivial⟩, by (repeat first | exact trivial | refine ⟨⟨_, rfl, rfl⟩, ?_⟩), rfl⟩
              case hp => exact ⟨⟨by omega, by omega⟩, by omega⟩
        · try have d4 := of_decide_eq_false h4
          (repeat refine sq ?_)
          refine ev_exit ?_
          (repeat first | refine evx_then ?_ | refine evx_hit ?_ | refine evx_miss rfl ?_)
          (repeat first | refine et ?_ | refine eb ?_)
          (repeat refine sq ?_)
          obtain rfl : k = 4 := by omega
          have hl : l.length = 13 := by omega
          have hhd := headOf_eq hl
          refine rg ?_
          refine xl ttOk rfl rfl ?_
          refine evl_call (nm := 71) (cf rfl) (c_HeadOk ⟨_, _, _, _⟩) (rs_of rfl) rfl rfl rfl ?_
          refine xo (q_not rfl) rfl ?_
          refine nl ?_
          (repeat first | refine et ?_ | refine eb ?_)
          (repeat refine sq ?_)
          refine ev_cond_n rfl (fun h7 => ?_) (fun h7 => ?_)
          · try have d7 := of_decide_eq_false h7
            (repeat refine sq ?_)
            refine rg ?_
            refine xo (q_build ttOk rfl) rfl ?_
            refine xst ttOk rfl ?_ rfl
            refine xs rfl rfl ?_
            refine nl ?_
            (repeat first | refine et ?_ | refine eb ?_)
            (repeat refine sq ?_)
            refine ev_ret ?_
            (repeat first | refine evr_then ?_ | refine evr_blk ?_)
            refine ret_pureN ttOk rfl rfl ?_
            first
            | (rw [rh_no1 (by omega)]; simp [RpLe, L2, RcLe, noHead]; done)
            | (rw [rh_no2 (by rw [hhd]; assumption)]; simp [RpLe, L2, RcLe, noHead]; done)
            | (rw [rh_no3 (by omega) (by assumption)]; simp [RpLe, L2, RcLe, noHead]; done)
            | (rw [rh_no4 (by omega) (by assumption)]; simp [RpLe, L2, RcLe, noHead]; done)
            | (rw [rh_yes hl (by rw [hhd]; assumption) (by omega) (by omega), hhd]; exact ⟨⟨rfl, rfl, rfl, rfl, rfl, trivial⟩, ⟨rfl, rfl, trivial⟩, trivial⟩)
          · try have d7 := of_decide_eq_true h7
            (repeat refine sq ?_)
            refine ev_skip ?_
            (repeat first | refine et ?_ | refine eb ?_)
            (repeat refine sq ?_)
            refine rg ?_
            refine xl ttOk rfl rfl ?_
            refine xst ttOk rfl ?_ rfl
            refine xs rfl rfl ?_
            refine nl ?_
            (repeat first | refine et ?_ | refine eb ?_)
            (repeat refine sq ?_)
            refine ev_ret ?_
            (repeat first | refine evr_then ?_ | refine evr_blk ?_)
            refine ret_pureN ttOk rfl rfl ?_
            first
            | (rw [rh_no1 (by omega)]; simp [RpLe, L2, RcLe, noHead]; done)
            | (rw [rh_no2 (by rw [hhd]; assumption)]; simp [RpLe, L2, RcLe, noHead]; done)
            | (rw [rh_no3 (by omega) (by assumption)]; simp [RpLe, L2, RcLe, noHead]; done)
            | (rw [rh_no4 (by omega) (by assumption)]; simp [RpLe, L2, RcLe, noHead]; done)
            | (rw [rh_yes hl (by rw [hhd]; assumption) (by omega) (by omega), hhd]; exact ⟨⟨rfl, rfl, rfl, rfl, rfl, trivial⟩, ⟨rfl, rfl, trivial⟩, trivial⟩)

end Go.Proofs.YtpbhcdgdabfhfaaGreat
