/- Walks of functions of the program, printed by a program of the prover. -/
import Derived.Test.YtinmcdcmidlgpaaGreatDoorAkF18
import Derived.Test.YtinmcdcmidlgpaaGreatDoorAkVM
import Derived.Test.YtinmcdcmidlgpaaGreatDoorAkVP
namespace Go.Proofs.YtinmcdcmidlgpaaGreatDoor
open Go.ChangeShapes Go.WideShapes Go.ChangeAt Go.RowKit
set_option linter.unusedVariables false
set_option linter.unusedSimpArgs false
set_option maxHeartbeats 1000000
set_option maxRecDepth 100000
attribute [local irreducible] EvL Ev EvE Quiet Eff Pure RDk RDb RDo
structure Book where
 base : Int
 time : Int
 entries : List Entry
structure LogN where
 two : Two
 head : Head
 next : Head
 more : Bool
 book : Book
 seen : List Mark
 durable : Int
 owe : List Ack
@[reducible] def bookC (x : Book) : List C := [iC x.base, iC x.time, entries x.entries]
@[reducible] def logC (n : LogN) : List C := [rows n.two.a.kept, writes n.two.a.wait, rows n.two.b.kept, writes n.two.b.wait, iC n.head.num, iC n.head.base, iC n.head.time, marks n.head.seen, iC n.next.num, iC n.next.base, iC n.next.time, marks n.next.seen, bC n.more, iC n.book.base, iC n.book.time, entries n.book.entries, marks n.seen, iC n.durable, acks n.owe]
@[reducible] def entriesR (l : List Entry) : RC := .s 80 9 (l.map entryC)
@[reducible] def acksR (l : List Ack) : RC := .s 83 4 (l.map ackC)
@[reducible] def bookR (x : Book) : List RC := [.v (.int .i64 x.base), .v (.int .i64 x.time), entriesR x.entries]
@[reducible] def logR (n : LogN) : List RC := [rowsR n.two.a.kept, writesR n.two.a.wait, rowsR n.two.b.kept, writesR n.two.b.wait, .v (.int .i64 n.head.num), .v (.int .i64 n.head.base), .v (.int .i64 n.head.time), marksR n.head.seen, .v (.int .i64 n.next.num), .v (.int .i64 n.next.base), .v (.int .i64 n.next.time), marksR n.next.seen, .v (.bool n.more),
 .v (.int .i64 n.book.base), .v (.int .i64 n.book.time), entriesR n.book.entries, marksR n.seen, .v (.int .i64 n.durable), acksR n.owe]
def logSz (n : LogN) : Nat := twoN n.two + n.head.seen.length + n.next.seen.length + n.book.entries.length + n.seen.length + n.owe.length
theorem z_book (x : Book) (z : Int) (h : 0 ≤ z ∧ z ≤ 1048576) : Pure Tryz.prog 49 [many (bookC x), one (iC z)] (iR (szB z x.entries.length)) := by
 refine pure_intro (N := 12) Tryz.func49 rfl rfl rfl rfl (fun H w => ?_)
 refine sq (rg (evl_e (e_box rfl rfl rfl rfl) (xs rfl rfl (nl (et (sq (rg (xf ttOk rfl rfl (xl ttOk rfl rfl (xm rfl rfl (evl_call (nm := 8) (cf rfl) (z_entries _ _ om) (rs_of rfl) rfl rfl rfl (xs rfl rfl (nl (et (sq (sq (rg (xm rfl rfl (xb ttOk rfl rfl (nl (et (ev_cond rfl (fun h1 => ?_) (fun h1 => ?_)))))))))))))))))))))))
 ·have d1 := of_decide_eq_true h1
  have e1 := szB_neg d1
  refine sq (rg (xs rfl rfl (nl (et (ev_ret (evr_then (ret_pure' ttOk rfl rfl (congrArg iR (?_ : _ = _)))))))))
  exact szB_is (fun _ => by omega) (fun _ => by omega)
 ·have d1 := of_decide_eq_false h1
  have e1 := szB_pos d1
  refine ev_skip (et (sq (rg (xm rfl rfl (xs rfl rfl (nl (et (ev_ret (ret_pure' ttOk rfl rfl (congrArg iR (?_ : _ = _)))))))))))
  exact szB_is (fun _ => by omega) (fun _ => by omega)
theorem z_log (n : LogN) (z : Int) (h : 0 ≤ z ∧ z ≤ 1048576) : Pure Tryz.prog 12 [many (logC n), one (iC z)] (iR (szB z (logSz n))) := by
 refine pure_intro (N := 42) Tryz.func12 rfl rfl rfl rfl (fun H w => ?_)
 refine sq (rg (evl_e (e_box rfl rfl rfl rfl) (xs rfl rfl (nl (et (sq (rg (xf ttOk rfl rfl (xl ttOk rfl rfl (xm rfl rfl (evl_call (nm := 8) (cf rfl) (z_two n.two _ om) (rs_of rfl) rfl rfl rfl (xs rfl rfl (nl (et (sq (sq (rg (xm rfl rfl (xb ttOk rfl rfl (nl (et (ev_cond rfl (fun h1 => ?_) (fun h1 => ?_)))))))))))))))))))))))
 ·have d1 := of_decide_eq_true h1
  have e1 := szB_neg d1
  refine sq (rg (xs rfl rfl (nl (et (ev_ret (evr_then (ret_pure' ttOk rfl rfl ?_)))))))
  unfold logSz
  refine congrArg iR (?_ : _ = _)
  exact szB_is (fun _ => by omega) (fun _ => by omega)
 ·have d1 := of_decide_eq_false h1
  have e1 := szB_pos d1
  refine ev_skip (et (sq (rg (xf ttOk rfl rfl (xl ttOk rfl rfl (xm rfl rfl ?_))))))
  first | refine evl_call (nm := 14) (cf rfl) (z_head n.head _ om) (rs_of rfl) rfl rfl rfl ?_ | refine evl_call (nm := 14) (cf rfl) (z_head n.next _ om) (rs_of rfl) rfl rfl rfl ?_
  refine xs rfl rfl (nl (et (sq (sq (rg (xm rfl rfl (xb ttOk rfl rfl (nl (et (ev_cond rfl (fun h2 => ?_) (fun h2 => ?_)))))))))))
  ·have d2 := of_decide_eq_true h2
   have e2 := szB_neg d2
   refine sq (rg (xs rfl rfl (nl (et (ev_ret (evr_then (ret_pure' ttOk rfl rfl ?_)))))))
   unfold logSz
   refine congrArg iR (?_ : _ = _)
   exact szB_is (fun _ => by omega) (fun _ => by omega)
  ·have d2 := of_decide_eq_false h2
   have e2 := szB_pos d2
   refine ev_skip (et (sq (rg (xf ttOk rfl rfl (xl ttOk rfl rfl (xm rfl rfl ?_))))))
   first | refine evl_call (nm := 20) (cf rfl) (z_head n.head _ om) (rs_of rfl) rfl rfl rfl ?_ | refine evl_call (nm := 20) (cf rfl) (z_head n.next _ om) (rs_of rfl) rfl rfl rfl ?_
   refine xs rfl rfl (nl (et (sq (sq (rg (xm rfl rfl (xb ttOk rfl rfl (nl (et (ev_cond rfl (fun h3 => ?_) (fun h3 => ?_)))))))))))
   ·have d3 := of_decide_eq_true h3
    have e3 := szB_neg d3
    refine sq (rg (xs rfl rfl (nl (et (ev_ret (evr_then (ret_pure' ttOk rfl rfl ?_)))))))
    unfold logSz
    refine congrArg iR (?_ : _ = _)
    exact szB_is (fun _ => by omega) (fun _ => by omega)
   ·have d3 := of_decide_eq_false h3
    have e3 := szB_pos d3
    refine ev_skip (et (sq (rg (xf ttOk rfl rfl (xl ttOk rfl rfl (xm rfl rfl (evl_call (nm := 26) (cf rfl) (z_book n.book _ om) (rs_of rfl) rfl rfl rfl (xs rfl rfl (nl (et (ev_pr [1, 2, 4, 27, 28, 29, 30, 31, 32, 33, 34, 35, 36, 37, 38, 39, 40, 41] rfl (sq (sq (rg (xm rfl rfl (xb ttOk rfl rfl (nl (et (ev_cond rfl (fun h4 => ?_) (fun h4 => ?_))))))))))))))))))))
    ·have d4 := of_decide_eq_true h4
     have e4 := szB_neg d4
     refine sq (rg (xs rfl rfl (nl (et (ev_ret (evr_then (ret_pure' ttOk rfl rfl ?_)))))))
     unfold logSz
     refine congrArg iR (?_ : _ = _)
     exact szB_is (fun _ => by omega) (fun _ => by omega)
    ·have d4 := of_decide_eq_false h4
     have e4 := szB_pos d4
     refine ev_skip (et (sq (rg (xf ttOk rfl rfl (xl ttOk rfl rfl (xm rfl rfl (evl_call (nm := 32) (cf rfl) (z_marks _ _ om) (rs_of rfl) rfl rfl rfl (xs rfl rfl (nl (et (sq (sq (rg (xm rfl rfl (xb ttOk rfl rfl (nl (et (ev_cond rfl (fun h5 => ?_) (fun h5 => ?_)))))))))))))))))))
     ·have d5 := of_decide_eq_true h5
      have e5 := szB_neg d5
      refine sq (rg (xs rfl rfl (nl (et (ev_ret (evr_then (ret_pure' ttOk rfl rfl ?_)))))))
      unfold logSz
      refine congrArg iR (?_ : _ = _)
      exact szB_is (fun _ => by omega) (fun _ => by omega)
     ·have d5 := of_decide_eq_false h5
      have e5 := szB_pos d5
      refine ev_skip (et (sq (rg (xf ttOk rfl rfl (xl ttOk rfl rfl (xm rfl rfl (evl_call (nm := 38) (cf rfl) (z_acks _ _ om) (rs_of rfl) rfl rfl rfl (xs rfl rfl (nl (et (sq (sq (rg (xm rfl rfl (xb ttOk rfl rfl (nl (et (ev_cond rfl (fun h6 => ?_) (fun h6 => ?_)))))))))))))))))))
      ·have d6 := of_decide_eq_true h6
       have e6 := szB_neg d6
       refine sq (rg (xs rfl rfl (nl (et (ev_ret (evr_then (ret_pure' ttOk rfl rfl ?_)))))))
       unfold logSz
       refine congrArg iR (?_ : _ = _)
       exact szB_is (fun _ => by omega) (fun _ => by omega)
      ·have d6 := of_decide_eq_false h6
       have e6 := szB_pos d6
       refine ev_skip (et (sq (rg (xm rfl rfl (xs rfl rfl (nl (et (ev_ret (ret_pure' ttOk rfl rfl ?_)))))))))
       unfold logSz
       refine congrArg iR (?_ : _ = _)
       exact szB_is (fun _ => by omega) (fun _ => by omega)
theorem t_op (k x1 x2 x3 x4 : Int) : Pure Tryz.prog 61 [many ([iC k, iC x1, iC x2, iC x3, iC x4])] [many' ([.v (.int .i64 k), .v (.int .i64 x1), .v (.int .i64 x2), .v (.int .i64 x3), .v (.int .i64 x4)])] := by
 refine pure_intro (N := 20) Tryz.func61 rfl rfl rfl rfl (fun H w => ?_)
 refine sq (rg (evl_e (e_box rfl rfl rfl rfl) (evl_e (e_alloc ttOk rfl rfl rfl rfl) (nl (et (sq (rg (evl_e (e_alloc ttOk rfl rfl rfl rfl) (nl (et (sq (rg (xf ttOk rfl rfl (xl ttOk rfl rfl (xf ttOk rfl rfl (xst ttOk rfl rfl (nl (et (sq (rg (xf ttOk rfl rfl (xl ttOk rfl rfl (xf ttOk rfl rfl (xst ttOk rfl rfl (nl (et (sq (rg (xf ttOk rfl rfl (xl ttOk rfl rfl (xf ttOk rfl rfl (xst ttOk rfl rfl (nl (et (sq (rg (xf ttOk rfl rfl (xl ttOk rfl rfl (xf ttOk rfl rfl (xst ttOk rfl rfl (nl (et (sq (rg (xf ttOk rfl rfl (xl ttOk rfl rfl (xf ttOk rfl rfl (xst ttOk rfl rfl (nl (et ?_))))))))))))))))))))))))))))))))))))))))))))))))))
 refine sq (rg (xl ttOk rfl rfl (xst ttOk rfl rfl (nl (et (ev_ret (ret_pure' ttOk rfl rfl ?_)))))))
 rfl
theorem t_entry (e : Entry) : Pure Tryz.prog 205 [many (entryC e)] [many' ([.v (.int .i64 e.index), .v (.int .i64 e.time), .v (.int .i64 e.client), .v (.int .i64 e.seq), .v (.int .i64 e.kind), .v (.int .i64 e.a), .v (.int .i64 e.b), .v (.int .i64 e.c), .v (.int .i64 e.d)])] := by
 refine pure_intro (N := 21) Tryz.func205 rfl rfl rfl rfl (fun H w => ?_)
 refine sq (rg (evl_e (e_box rfl rfl rfl rfl) (evl_e (e_alloc ttOk rfl rfl rfl rfl) (nl (et (sq (rg (evl_e (e_alloc ttOk rfl rfl rfl rfl) (nl (et (sq (rg (xf ttOk rfl rfl (xl ttOk rfl rfl (xf ttOk rfl rfl (xst ttOk rfl rfl (nl (et (sq (rg (xf ttOk rfl rfl (xl ttOk rfl rfl (xf ttOk rfl rfl (xst ttOk rfl rfl (nl (et (sq (rg (xf ttOk rfl rfl (xl ttOk rfl rfl (xf ttOk rfl rfl (xst ttOk rfl rfl (nl (et (sq (rg (xf ttOk rfl rfl (xl ttOk rfl rfl (xf ttOk rfl rfl (xst ttOk rfl rfl (nl (et (sq (rg (xf ttOk rfl rfl (xl ttOk rfl rfl (evl_call (nm := 18) (cf rfl) (t_op _ _ _ _ _) (rs_of rfl) rfl rfl rfl (xf ttOk rfl rfl (xst ttOk rfl rfl (nl ?_))))))))))))))))))))))))))))))))))))))))))))))))))
 refine et (sq (rg (xl ttOk rfl rfl (xst ttOk rfl rfl (nl (et (ev_ret (ret_pure' ttOk rfl rfl ?_))))))))
 rfl
theorem t_entries (l : List Entry) (h : l.length ≤ 1048576) : Pure Tryz.prog 136 [one (entries l)] [one' (RC.s 80 9 (l.map (entryC)))] := by
 refine pure_intro (N := 23) Tryz.func136 rfl rfl rfl rfl (fun H w => ?_)
 refine ev_lenm (t := 0) rfl (fun hL => ?_)
 refine sq (rg (xs rfl rfl (nl (et (sq (rg (xm rfl rfl (xo (q_len_map ttOk rfl rfl) rfl (evl_e (e_make ttOk rfl rfl rfl rfl rfl rfl rfl om rfl rfl) (xs rfl rfl (nl (et (sq (sq (rg (xs rfl rfl (nl (et (ev_blk (ev_loop (fun k : Nat => (⟨[(4, iV k), (0, cV (entries l)), (3, .p false [.rt 7])], [], [(7, 80, 9, mixR (entryC) [iC 0, iC 0, iC 0, iC 0, iC 0, iC 0, iC 0, iC 0, iC 0] l k)], []⟩ : St)) (fun k => k ≤ l.length) (fun k => l.length - k) 0 [] (by simp) ⟨trf, trf, ⟨⟨_, rfl, by exact mixR_zero _ _ _⟩, trivial⟩, tre, rfl⟩ ?_))))))))))))))))))))
 intro k hp
 have p0 := hp
 show Ev _ _ _ _ (⟨[(4, iV k), (0, cV (entries l)), (3, .p false [.rt 7])], [], [(7, 80, 9, mixR (entryC) [iC 0, iC 0, iC 0, iC 0, iC 0, iC 0, iC 0, iC 0, iC 0] l k)], []⟩ : St)
 refine sq (sq (rg (xm rfl rfl (xm rfl rfl (xo (q_len_map ttOk rfl rfl) rfl (xb ttOk rfl rfl (nl (et (ev_cond rfl (fun h1 => ?_) (fun h1 => ?_))))))))))
 ·have d1 := of_decide_eq_true h1
  refine ev_skip (et (sq (ev_blk (rg (xm rfl rfl (xm rfl rfl (xm rfl rfl (xm rfl rfl (xo (q_ix_map ttOk rfl rfl rfl rfl om) rfl (xl ttOk rfl rfl (evl_call (nm := 20) (cf rfl) (t_entry (l[k]'om)) (rs_of rfl) rfl rfl rfl (xo (q_ix_rt (m := k) ttOk rfl rfl rfl rfl rfl rfl (by rw [mixR_len om]; omega)) rfl (evl_e (e_st_pr ttOk rfl rfl rfl rfl rfl rfl rfl (mixR_at om) rfl (mixR_set (f := entryC) (l := l) om) rfl rfl rfl) (nl (eb (et (rg (xm rfl rfl (xa rfl rfl rfl om rfl (xs rfl rfl (nl (eve_round (k + 1) [] ?hp ⟨trf, trf, ⟨⟨_, rfl, by rfl⟩, trivial⟩, tre, rfl⟩))))))))))))))))))))))
  case hp => exact ⟨by omega, by omega⟩
 ·have d1 := of_decide_eq_false h1
  refine ev_exit (evx_then (evx_then (evx_hit (et (sq (rg (xm rfl rfl (xs rfl rfl (nl (et (ev_ret (ret_pure' ttOk rfl rfl ?_))))))))))))
  rw [mixR_all om]
theorem t_book (x : Book) (h : x.entries.length ≤ 1048576) : Pure Tryz.prog 58 [many (bookC x)] [many' (bookR x)] := by
 refine pure_intro (N := 15) Tryz.func58 rfl rfl rfl rfl (fun H w => ?_)
 refine sq (rg (evl_e (e_box rfl rfl rfl rfl) (evl_e (e_alloc ttOk rfl rfl rfl rfl) (nl (et (sq (rg (evl_e (e_alloc ttOk rfl rfl rfl rfl) (nl (et (sq (rg (xf ttOk rfl rfl (xl ttOk rfl rfl (xf ttOk rfl rfl (xst ttOk rfl rfl (nl (et (sq (rg (xf ttOk rfl rfl (xl ttOk rfl rfl (xf ttOk rfl rfl (xst ttOk rfl rfl (nl (et (sq (rg (xf ttOk rfl rfl (xl ttOk rfl rfl (evl_call (nm := 12) (cf rfl) (t_entries _ om) (rs_of rfl) rfl rfl rfl (xf ttOk rfl rfl (xst ttOk rfl rfl (nl (et (sq (rg (xl ttOk rfl rfl (xst ttOk rfl rfl (nl (et (ev_ret (ret_pure' ttOk rfl rfl ?_)))))))))))))))))))))))))))))))))))))))))))
 rfl
theorem t_log (n : LogN) (h : logSz n ≤ 1048576) : Pure Tryz.prog 14 [many (logC n)] [many' (logR n)] := by
 refine pure_intro (N := 35) Tryz.func14 rfl rfl rfl rfl (fun H w => ?_)
 unfold logSz at h
 refine sq (rg (evl_e (e_box rfl rfl rfl rfl) (evl_e (e_alloc ttOk rfl rfl rfl rfl) (nl (et (sq (rg (evl_e (e_alloc ttOk rfl rfl rfl rfl) (nl (et (sq (rg (xf ttOk rfl rfl (xl ttOk rfl rfl (evl_call (nm := 6) (cf rfl) (t_two n.two om) (rs_of rfl) rfl rfl rfl (xf ttOk rfl rfl (xst ttOk rfl rfl (nl (et (sq (rg (xf ttOk rfl rfl (xl ttOk rfl rfl ?_)))))))))))))))))))))))
 first | refine evl_call (nm := 10) (cf rfl) (t_head n.head om) (rs_of rfl) rfl rfl rfl ?_ | refine evl_call (nm := 10) (cf rfl) (t_head n.next om) (rs_of rfl) rfl rfl rfl ?_
 refine xf ttOk rfl rfl (xst ttOk rfl rfl (nl (et (sq (rg (xf ttOk rfl rfl (xl ttOk rfl rfl ?_)))))))
 first | refine evl_call (nm := 14) (cf rfl) (t_head n.head om) (rs_of rfl) rfl rfl rfl ?_ | refine evl_call (nm := 14) (cf rfl) (t_head n.next om) (rs_of rfl) rfl rfl rfl ?_
 refine xf ttOk rfl rfl (xst ttOk rfl rfl (nl (et (sq (rg (xf ttOk rfl rfl (xl ttOk rfl rfl (xf ttOk rfl rfl (xst ttOk rfl rfl (nl (et (sq (rg (xf ttOk rfl rfl (xl ttOk rfl rfl (evl_call (nm := 21) (cf rfl) (t_book n.book om) (rs_of rfl) rfl rfl rfl (xf ttOk rfl rfl (xst ttOk rfl rfl (nl (et (sq (rg (xf ttOk rfl rfl (xl ttOk rfl rfl (evl_call (nm := 25) (cf rfl) (t_marks n.seen om) (rs_of rfl) rfl rfl rfl (xf ttOk rfl rfl (xst ttOk rfl rfl (nl (et (ev_pr [1, 2, 3, 27, 28, 29, 30, 31, 32, 33, 34] rfl (sq (rg (xf ttOk rfl rfl (xl ttOk rfl rfl (xf ttOk rfl rfl (xst ttOk rfl rfl (nl (et (sq (rg (xf ttOk rfl rfl (xl ttOk rfl rfl (evl_call (nm := 32) (cf rfl) (t_acks n.owe om) (rs_of rfl) rfl rfl rfl (xf ttOk rfl rfl (xst ttOk rfl rfl (nl (et (sq (rg (xl ttOk rfl rfl ?_))))))))))))))))))))))))))))))))))))))))))))))))))
 refine xst ttOk rfl rfl (nl (et (ev_ret (ret_pure' ttOk rfl rfl ?_))))
 rfl
theorem e_op (k x1 x2 x3 x4 : Int) : Pure Tryz.prog 246 [many ([iC k, iC x1, iC x2, iC x3, iC x4]), many ([iC k, iC x1, iC x2, iC x3, iC x4])] (bR true) := by
 refine pure_intro (N := 30) Tryz.func246 rfl rfl rfl rfl (fun H w => ?_)
 refine sq (rg (evl_e (e_box rfl rfl rfl rfl) (evl_e (e_box rfl rfl rfl rfl) (xs rfl rfl (nl (et (sq (sq (rg (xf ttOk rfl rfl (xl ttOk rfl rfl (xf ttOk rfl rfl (xl ttOk rfl rfl (xb ttOk rfl rfl (nl (et (ev_cond rfl (fun h1 => ?_) (fun h1 => ?_))))))))))))))))))
 ·try have d1 := of_decide_eq_true h1
  refine sq (rg (xs rfl rfl (nl (et (ev_ret (evr_then (ret_pure' ttOk rfl rfl (congrArg bR (?_ : _ = _)))))))))
  first | rfl | (exfalso; simp_all; done) | (exfalso; omega)
 ·try have d1 := of_decide_eq_false h1
  refine ev_skip (et (sq (sq (rg (xf ttOk rfl rfl (xl ttOk rfl rfl (xf ttOk rfl rfl (xl ttOk rfl rfl (xb ttOk rfl rfl (nl (et (ev_cond rfl (fun h2 => ?_) (fun h2 => ?_)))))))))))))
  ·try have d2 := of_decide_eq_true h2
   refine sq (rg (xs rfl rfl (nl (et (ev_ret (evr_then (ret_pure' ttOk rfl rfl (congrArg bR (?_ : _ = _)))))))))
   first | rfl | (exfalso; simp_all; done) | (exfalso; omega)
  ·try have d2 := of_decide_eq_false h2
   refine ev_skip (et (sq (sq (rg (xf ttOk rfl rfl (xl ttOk rfl rfl (xf ttOk rfl rfl (xl ttOk rfl rfl (xb ttOk rfl rfl (nl (et (ev_cond rfl (fun h3 => ?_) (fun h3 => ?_)))))))))))))
   ·try have d3 := of_decide_eq_true h3
    refine sq (rg (xs rfl rfl (nl (et (ev_ret (evr_then (ret_pure' ttOk rfl rfl (congrArg bR (?_ : _ = _)))))))))
    first | rfl | (exfalso; simp_all; done) | (exfalso; omega)
   ·try have d3 := of_decide_eq_false h3
    refine ev_skip (et (sq (sq (rg (xf ttOk rfl rfl (xl ttOk rfl rfl (xf ttOk rfl rfl (xl ttOk rfl rfl (xb ttOk rfl rfl (nl (et (ev_cond rfl (fun h4 => ?_) (fun h4 => ?_)))))))))))))
    ·try have d4 := of_decide_eq_true h4
     refine sq (rg (xs rfl rfl (nl (et (ev_ret (evr_then (ret_pure' ttOk rfl rfl (congrArg bR (?_ : _ = _)))))))))
     first | rfl | (exfalso; simp_all; done) | (exfalso; omega)
    ·try have d4 := of_decide_eq_false h4
     refine ev_skip (et (sq (sq (rg (xf ttOk rfl rfl (xl ttOk rfl rfl (xf ttOk rfl rfl (xl ttOk rfl rfl (xb ttOk rfl rfl (nl (et (ev_cond rfl (fun h5 => ?_) (fun h5 => ?_)))))))))))))
     ·try have d5 := of_decide_eq_true h5
      refine ev_pr [4] rfl (sq (rg (xs rfl rfl (nl (et (ev_ret (evr_then (ret_pure' ttOk rfl rfl (congrArg bR (?_ : _ = _))))))))))
      first | rfl | (exfalso; simp_all; done) | (exfalso; omega)
     ·try have d5 := of_decide_eq_false h5
      refine ev_skip (et (ev_pr [4] rfl (sq (rg (xs rfl rfl (nl (et (ev_ret (ret_pure' ttOk rfl rfl (congrArg bR (?_ : _ = _)))))))))))
      first | rfl | (exfalso; simp_all; done) | (exfalso; omega)
theorem e_entry (e : Entry) : Pure Tryz.prog 215 [many (entryC e), many (entryC e)] (bR true) := by
 refine pure_intro (N := 31) Tryz.func215 rfl rfl rfl rfl (fun H w => ?_)
 refine sq (rg (evl_e (e_box rfl rfl rfl rfl) (evl_e (e_box rfl rfl rfl rfl) (xs rfl rfl (nl (et (sq (sq (rg (xf ttOk rfl rfl (xl ttOk rfl rfl (xf ttOk rfl rfl (xl ttOk rfl rfl (xb ttOk rfl rfl (nl (et (ev_cond rfl (fun h1 => ?_) (fun h1 => ?_))))))))))))))))))
 ·try have d1 := of_decide_eq_true h1
  refine sq (rg (xs rfl rfl (nl (et (ev_ret (evr_then (ret_pure' ttOk rfl rfl (congrArg bR (?_ : _ = _)))))))))
  first | rfl | (exfalso; simp_all; done) | (exfalso; omega)
 ·try have d1 := of_decide_eq_false h1
  refine ev_skip (et (sq (sq (rg (xf ttOk rfl rfl (xl ttOk rfl rfl (xf ttOk rfl rfl (xl ttOk rfl rfl (xb ttOk rfl rfl (nl (et (ev_cond rfl (fun h2 => ?_) (fun h2 => ?_)))))))))))))
  ·try have d2 := of_decide_eq_true h2
   refine sq (rg (xs rfl rfl (nl (et (ev_ret (evr_then (ret_pure' ttOk rfl rfl (congrArg bR (?_ : _ = _)))))))))
   first | rfl | (exfalso; simp_all; done) | (exfalso; omega)
  ·try have d2 := of_decide_eq_false h2
   refine ev_skip (et (sq (sq (rg (xf ttOk rfl rfl (xl ttOk rfl rfl (xf ttOk rfl rfl (xl ttOk rfl rfl (xb ttOk rfl rfl (nl (et (ev_cond rfl (fun h3 => ?_) (fun h3 => ?_)))))))))))))
   ·try have d3 := of_decide_eq_true h3
    refine sq (rg (xs rfl rfl (nl (et (ev_ret (evr_then (ret_pure' ttOk rfl rfl (congrArg bR (?_ : _ = _)))))))))
    first | rfl | (exfalso; simp_all; done) | (exfalso; omega)
   ·try have d3 := of_decide_eq_false h3
    refine ev_skip (et (sq (sq (rg (xf ttOk rfl rfl (xl ttOk rfl rfl (xf ttOk rfl rfl (xl ttOk rfl rfl (xb ttOk rfl rfl (nl (et (ev_cond rfl (fun h4 => ?_) (fun h4 => ?_)))))))))))))
    ·try have d4 := of_decide_eq_true h4
     refine sq (rg (xs rfl rfl (nl (et (ev_ret (evr_then (ret_pure' ttOk rfl rfl (congrArg bR (?_ : _ = _)))))))))
     first | rfl | (exfalso; simp_all; done) | (exfalso; omega)
    ·try have d4 := of_decide_eq_false h4
     refine ev_skip (et (sq (sq (rg (xf ttOk rfl rfl (xl ttOk rfl rfl (xf ttOk rfl rfl (xl ttOk rfl rfl (evl_call (nm := 29) (cf rfl) (e_op _ _ _ _ _) (rs_of rfl) rfl rfl rfl (xo (q_not rfl) rfl (nl (et (ev_cond_n rfl (fun h5 => ?_) (fun h5 => ?_))))))))))))))
     ·try have d5 := of_decide_eq_false h5
      refine ev_pr [4] rfl (sq (rg (xs rfl rfl (nl (et (ev_ret (evr_then (ret_pure' ttOk rfl rfl (congrArg bR (?_ : _ = _))))))))))
      first | rfl | (exfalso; simp_all; done) | (exfalso; omega)
     ·try have d5 := of_decide_eq_true h5
      refine ev_skip (et (ev_pr [4] rfl (sq (rg (xs rfl rfl (nl (et (ev_ret (ret_pure' ttOk rfl rfl (congrArg bR (?_ : _ = _)))))))))))
      first | rfl | (exfalso; simp_all; done) | (exfalso; omega)
theorem e_entries (l : List Entry) : Pure Tryz.prog 158 [one (entries l), one (entries l)] (bR true) := by
 refine pure_intro (N := 27) Tryz.func158 rfl rfl rfl rfl (fun H w => ?_)
 refine ev_lenm (t := 0) rfl (fun hL => ?_)
 refine ev_lenm (t := 1) rfl (fun hM => ?_)
 refine sq (rg (xs rfl rfl (nl (et (sq (sq (rg (xm rfl rfl (xo (q_len_map ttOk rfl rfl) rfl (xm rfl rfl (xo (q_len_map ttOk rfl rfl) rfl (xb ttOk rfl rfl (nl (et (ev_cond rfl (fun h1 => ?_) (fun h1 => ?_))))))))))))))))
 ·try have d1 := of_decide_eq_true h1
  refine sq (rg (xs rfl rfl (nl (et (ev_ret (evr_then (ret_pure' ttOk rfl rfl (congrArg bR (?_ : _ = _)))))))))
  first | rfl | (exfalso; simp_all; done) | (exfalso; omega)
 ·try have d1 := of_decide_eq_false h1
  refine ev_skip (et (sq (sq (rg (xs rfl rfl (nl (et (ev_blk (ev_loop (fun k : Nat => (⟨[(5, iV k), (0, cV (entries l)), (1, cV (entries l))], [], [], []⟩ : St)) (fun k => k ≤ l.length) (fun k => l.length - k) 0 [] (by simp) lei ?_)))))))))
  intro k hp
  have p0 := hp
  show Ev _ _ _ _ (⟨[(5, iV k), (0, cV (entries l)), (1, cV (entries l))], [], [], []⟩ : St)
  refine sq (sq (rg (xm rfl rfl (xm rfl rfl (xo (q_len_map ttOk rfl rfl) rfl (xb ttOk rfl rfl (nl (et (ev_cond rfl (fun h2 => ?_) (fun h2 => ?_))))))))))
  ·try have d2 := of_decide_eq_true h2
   refine ev_skip (et (sq (ev_blk (sq (ev_drawq [] mo (rk0 0 rfl (q_move rfl) rfl (rk0 1 rfl (q_move rfl) rfl (rk0 2 rfl (q_ix_map ttOk rfl rfl rfl rfl om) rfl (rk0 3 rfl (q_load ttOk rfl) rfl (rk0 4 rfl (q_move rfl) rfl (rk0 5 rfl (q_move rfl) rfl (rk0 6 rfl (q_ix_map ttOk rfl rfl rfl rfl om) rfl (rk0 7 rfl (q_load ttOk rfl) rfl (rdk_one 8 kr (rdo_call (nm := 25) rfl trivial (cf rfl) (e_entry ⟨_, _, _, _, _, _, _, _, _⟩) (rs_of rfl) rfl rfl rfl (rk0 9 rfl (q_not rfl) rfl (rdk_endq kr (et (ev_cond_n rfl (fun h3 => ?_) (fun h3 => ?_))))))))))))))))))))
   ·try have d3 := of_decide_eq_false h3
    refine sq (rg (xs rfl rfl (nl (et (ev_ret (evr_blk (evr_then (evr_then (evr_blk (evr_then (ret_pure' ttOk rfl rfl (congrArg bR (?_ : _ = _)))))))))))))
    first | rfl | (exfalso; simp_all; done) | (exfalso; omega)
   ·try have d3 := of_decide_eq_true h3
    refine ev_skip (eb (et (rg (xm rfl rfl (xa rfl rfl rfl om rfl (xs rfl rfl (nl (eve_round (k + 1) [] ?hp lei))))))))
    case hp => exact ⟨by omega, by omega⟩
  ·try have d2 := of_decide_eq_false h2
   refine ev_exit (evx_then (evx_then (evx_hit (et (sq (rg (xs rfl rfl (nl (et (ev_ret (ret_pure' ttOk rfl rfl (congrArg bR (?_ : _ = _)))))))))))))
   first | rfl | (exfalso; simp_all; done) | (exfalso; omega)
theorem e_book (x : Book) : Pure Tryz.prog 71 [many (bookC x), many (bookC x)] (bR true) := by
 refine pure_intro (N := 21) Tryz.func71 rfl rfl rfl rfl (fun H w => ?_)
 refine sq (rg (evl_e (e_box rfl rfl rfl rfl) (evl_e (e_box rfl rfl rfl rfl) (xs rfl rfl (nl (et (sq (sq (rg (xf ttOk rfl rfl (xl ttOk rfl rfl (xf ttOk rfl rfl (xl ttOk rfl rfl (xb ttOk rfl rfl (nl (et (ev_cond rfl (fun h1 => ?_) (fun h1 => ?_))))))))))))))))))
 ·try have d1 := of_decide_eq_true h1
  refine sq (rg (xs rfl rfl (nl (et (ev_ret (evr_then (ret_pure' ttOk rfl rfl (congrArg bR (?_ : _ = _)))))))))
  first | rfl | (exfalso; simp_all; done) | (exfalso; omega)
 ·try have d1 := of_decide_eq_false h1
  refine ev_skip (et (sq (sq (rg (xf ttOk rfl rfl (xl ttOk rfl rfl (xf ttOk rfl rfl (xl ttOk rfl rfl (xb ttOk rfl rfl (nl (et (ev_cond rfl (fun h2 => ?_) (fun h2 => ?_)))))))))))))
  ·try have d2 := of_decide_eq_true h2
   refine sq (rg (xs rfl rfl (nl (et (ev_ret (evr_then (ret_pure' ttOk rfl rfl (congrArg bR (?_ : _ = _)))))))))
   first | rfl | (exfalso; simp_all; done) | (exfalso; omega)
  ·try have d2 := of_decide_eq_false h2
   refine ev_skip (et (sq (sq (rg (xf ttOk rfl rfl (xl ttOk rfl rfl (xf ttOk rfl rfl (xl ttOk rfl rfl (evl_call (nm := 19) (cf rfl) (e_entries _) (rs_of rfl) rfl rfl rfl (xo (q_not rfl) rfl (nl (et (ev_cond_n rfl (fun h3 => ?_) (fun h3 => ?_))))))))))))))
   ·try have d3 := of_decide_eq_false h3
    refine sq (rg (xs rfl rfl (nl (et (ev_ret (evr_then (ret_pure' ttOk rfl rfl (congrArg bR (?_ : _ = _)))))))))
    first | rfl | (exfalso; simp_all; done) | (exfalso; omega)
   ·try have d3 := of_decide_eq_true h3
    refine ev_skip (et (sq (rg (xs rfl rfl (nl (et (ev_ret (ret_pure' ttOk rfl rfl (congrArg bR (?_ : _ = _))))))))))
    first | rfl | (exfalso; simp_all; done) | (exfalso; omega)
theorem e_ack (m : Ack) : Pure Tryz.prog 73 [many (ackC m), many (ackC m)] (bR true) := by
 refine pure_intro (N := 25) Tryz.func73 rfl rfl rfl rfl (fun H w => ?_)
 refine sq (rg (evl_e (e_box rfl rfl rfl rfl) (evl_e (e_box rfl rfl rfl rfl) (xs rfl rfl (nl (et (sq (sq (rg (xf ttOk rfl rfl (xl ttOk rfl rfl (xf ttOk rfl rfl (xl ttOk rfl rfl (xb ttOk rfl rfl (nl (et (ev_cond rfl (fun h1 => ?_) (fun h1 => ?_))))))))))))))))))
 ·try have d1 := of_decide_eq_true h1
  refine sq (rg (xs rfl rfl (nl (et (ev_ret (evr_then (ret_pure' ttOk rfl rfl (congrArg bR (?_ : _ = _)))))))))
  first | rfl | (exfalso; simp_all; done) | (exfalso; omega)
 ·try have d1 := of_decide_eq_false h1
  refine ev_skip (et (sq (sq (rg (xf ttOk rfl rfl (xl ttOk rfl rfl (xf ttOk rfl rfl (xl ttOk rfl rfl (xb ttOk rfl rfl (nl (et (ev_cond rfl (fun h2 => ?_) (fun h2 => ?_)))))))))))))
  ·try have d2 := of_decide_eq_true h2
   refine sq (rg (xs rfl rfl (nl (et (ev_ret (evr_then (ret_pure' ttOk rfl rfl (congrArg bR (?_ : _ = _)))))))))
   first | rfl | (exfalso; simp_all; done) | (exfalso; omega)
  ·try have d2 := of_decide_eq_false h2
   refine ev_skip (et (sq (sq (rg (xf ttOk rfl rfl (xl ttOk rfl rfl (xf ttOk rfl rfl (xl ttOk rfl rfl (xb ttOk rfl rfl (nl (et (ev_cond rfl (fun h3 => ?_) (fun h3 => ?_)))))))))))))
   ·try have d3 := of_decide_eq_true h3
    refine sq (rg (xs rfl rfl (nl (et (ev_ret (evr_then (ret_pure' ttOk rfl rfl (congrArg bR (?_ : _ = _)))))))))
    first | rfl | (exfalso; simp_all; done) | (exfalso; omega)
   ·try have d3 := of_decide_eq_false h3
    refine ev_skip (et (sq (sq (rg (xf ttOk rfl rfl (xl ttOk rfl rfl (xf ttOk rfl rfl (xl ttOk rfl rfl (xb ttOk rfl rfl (nl (et (ev_cond rfl (fun h4 => ?_) (fun h4 => ?_)))))))))))))
    ·try have d4 := of_decide_eq_true h4
     refine sq (rg (xs rfl rfl (nl (et (ev_ret (evr_then (ret_pure' ttOk rfl rfl (congrArg bR (?_ : _ = _)))))))))
     first | rfl | (exfalso; simp_all; done) | (exfalso; omega)
    ·try have d4 := of_decide_eq_false h4
     refine ev_skip (et (sq (rg (xs rfl rfl (nl (et (ev_ret (ret_pure' ttOk rfl rfl (congrArg bR (?_ : _ = _))))))))))
     first | rfl | (exfalso; simp_all; done) | (exfalso; omega)
theorem e_acks (l : List Ack) : Pure Tryz.prog 18 [one (acks l), one (acks l)] (bR true) := by
 refine pure_intro (N := 27) Tryz.func18 rfl rfl rfl rfl (fun H w => ?_)
 refine ev_lenm (t := 0) rfl (fun hL => ?_)
 refine ev_lenm (t := 1) rfl (fun hM => ?_)
 refine sq (rg (xs rfl rfl (nl (et (sq (sq (rg (xm rfl rfl (xo (q_len_map ttOk rfl rfl) rfl (xm rfl rfl (xo (q_len_map ttOk rfl rfl) rfl (xb ttOk rfl rfl (nl (et (ev_cond rfl (fun h1 => ?_) (fun h1 => ?_))))))))))))))))
 ·try have d1 := of_decide_eq_true h1
  refine sq (rg (xs rfl rfl (nl (et (ev_ret (evr_then (ret_pure' ttOk rfl rfl (congrArg bR (?_ : _ = _)))))))))
  first | rfl | (exfalso; simp_all; done) | (exfalso; omega)
 ·try have d1 := of_decide_eq_false h1
  refine ev_skip (et (sq (sq (rg (xs rfl rfl (nl (et (ev_blk (ev_loop (fun k : Nat => (⟨[(5, iV k), (0, cV (acks l)), (1, cV (acks l))], [], [], []⟩ : St)) (fun k => k ≤ l.length) (fun k => l.length - k) 0 [] (by simp) lei ?_)))))))))
  intro k hp
  have p0 := hp
  show Ev _ _ _ _ (⟨[(5, iV k), (0, cV (acks l)), (1, cV (acks l))], [], [], []⟩ : St)
  refine sq (sq (rg (xm rfl rfl (xm rfl rfl (xo (q_len_map ttOk rfl rfl) rfl (xb ttOk rfl rfl (nl (et (ev_cond rfl (fun h2 => ?_) (fun h2 => ?_))))))))))
  ·try have d2 := of_decide_eq_true h2
   refine ev_skip (et (sq (ev_blk (sq (ev_drawq [] mo (rk0 0 rfl (q_move rfl) rfl (rk0 1 rfl (q_move rfl) rfl (rk0 2 rfl (q_ix_map ttOk rfl rfl rfl rfl om) rfl (rk0 3 rfl (q_load ttOk rfl) rfl (rk0 4 rfl (q_move rfl) rfl (rk0 5 rfl (q_move rfl) rfl (rk0 6 rfl (q_ix_map ttOk rfl rfl rfl rfl om) rfl (rk0 7 rfl (q_load ttOk rfl) rfl (rdk_one 8 kr (rdo_call (nm := 25) rfl trivial (cf rfl) (e_ack ⟨_, _, _, _⟩) (rs_of rfl) rfl rfl rfl (rk0 9 rfl (q_not rfl) rfl (rdk_endq kr (et (ev_cond_n rfl (fun h3 => ?_) (fun h3 => ?_))))))))))))))))))))
   ·try have d3 := of_decide_eq_false h3
    refine sq (rg (xs rfl rfl (nl (et (ev_ret (evr_blk (evr_then (evr_then (evr_blk (evr_then (ret_pure' ttOk rfl rfl (congrArg bR (?_ : _ = _)))))))))))))
    first | rfl | (exfalso; simp_all; done) | (exfalso; omega)
   ·try have d3 := of_decide_eq_true h3
    refine ev_skip (eb (et (rg (xm rfl rfl (xa rfl rfl rfl om rfl (xs rfl rfl (nl (eve_round (k + 1) [] ?hp lei))))))))
    case hp => exact ⟨by omega, by omega⟩
  ·try have d2 := of_decide_eq_false h2
   refine ev_exit (evx_then (evx_then (evx_hit (et (sq (rg (xs rfl rfl (nl (et (ev_ret (ret_pure' ttOk rfl rfl (congrArg bR (?_ : _ = _)))))))))))))
   first | rfl | (exfalso; simp_all; done) | (exfalso; omega)
theorem e_log (n : LogN) : Pure Tryz.prog 17 [many (logC n), many (logC n)] (bR true) := by
 refine pure_intro (N := 51) Tryz.func17 rfl rfl rfl rfl (fun H w => ?_)
 refine sq (rg (evl_e (e_box rfl rfl rfl rfl) (evl_e (e_box rfl rfl rfl rfl) (xs rfl rfl (nl (et (sq (sq (rg (xf ttOk rfl rfl (xl ttOk rfl rfl (xf ttOk rfl rfl (xl ttOk rfl rfl (evl_call (nm := 9) (cf rfl) (e_two ⟨⟨_, _⟩, ⟨_, _⟩⟩) (rs_of rfl) rfl rfl rfl (xo (q_not rfl) rfl (nl (et (ev_cond_n rfl (fun h1 => ?_) (fun h1 => ?_)))))))))))))))))))
 ·try have d1 := of_decide_eq_false h1
  refine sq (rg (xs rfl rfl (nl (et (ev_ret (evr_then (ret_pure' ttOk rfl rfl (congrArg bR (?_ : _ = _)))))))))
  first | rfl | (exfalso; simp_all; done) | (exfalso; omega)
 ·try have d1 := of_decide_eq_true h1
  refine ev_skip (et (sq (sq (rg (xf ttOk rfl rfl (xl ttOk rfl rfl (xf ttOk rfl rfl (xl ttOk rfl rfl (evl_call (nm := 15) (cf rfl) (e_head ⟨_, _, _, _⟩) (rs_of rfl) rfl rfl rfl (xo (q_not rfl) rfl (nl (et (ev_cond_n rfl (fun h2 => ?_) (fun h2 => ?_))))))))))))))
  ·try have d2 := of_decide_eq_false h2
   refine sq (rg (xs rfl rfl (nl (et (ev_ret (evr_then (ret_pure' ttOk rfl rfl (congrArg bR (?_ : _ = _)))))))))
   first | rfl | (exfalso; simp_all; done) | (exfalso; omega)
  ·try have d2 := of_decide_eq_true h2
   refine ev_skip (et (sq (sq (rg (xf ttOk rfl rfl (xl ttOk rfl rfl (xf ttOk rfl rfl (xl ttOk rfl rfl (evl_call (nm := 21) (cf rfl) (e_head ⟨_, _, _, _⟩) (rs_of rfl) rfl rfl rfl (xo (q_not rfl) rfl (nl (et (ev_cond_n rfl (fun h3 => ?_) (fun h3 => ?_))))))))))))))
   ·try have d3 := of_decide_eq_false h3
    refine sq (rg (xs rfl rfl (nl (et (ev_ret (evr_then (ret_pure' ttOk rfl rfl (congrArg bR (?_ : _ = _)))))))))
    first | rfl | (exfalso; simp_all; done) | (exfalso; omega)
   ·try have d3 := of_decide_eq_true h3
    refine ev_skip (et (sq (sq (rg (xf ttOk rfl rfl (xl ttOk rfl rfl (xf ttOk rfl rfl (xl ttOk rfl rfl (xb ttOk rfl rfl (nl (et (ev_cond rfl (fun h4 => ?_) (fun h4 => ?_)))))))))))))
    ·try have d4 := of_decide_eq_true h4
     refine ev_pr [2, 3, 4, 28, 29, 30, 31, 32, 33, 34, 35, 36, 37, 38, 39, 40, 41, 42, 43, 44, 45, 46, 47, 48, 49, 50] rfl (sq (rg (xs rfl rfl (nl (et (ev_ret (evr_then (ret_pure' ttOk rfl rfl (congrArg bR (?_ : _ = _))))))))))
     first | rfl | (exfalso; simp_all; done) | (exfalso; omega)
    ·try have d4 := of_decide_eq_false h4
     refine ev_skip (et (ev_pr [2, 3, 4, 28, 29, 30, 31, 32, 33, 34, 35, 36, 37, 38, 39, 40, 41, 42, 43, 44, 45, 46, 47, 48, 49, 50] rfl (sq (sq (rg (xf ttOk rfl rfl (xl ttOk rfl rfl (xf ttOk rfl rfl (xl ttOk rfl rfl (evl_call (nm := 32) (cf rfl) (e_book ⟨_, _, _⟩) (rs_of rfl) rfl rfl rfl (xo (q_not rfl) rfl (nl (et (ev_cond_n rfl (fun h5 => ?_) (fun h5 => ?_)))))))))))))))
     ·try have d5 := of_decide_eq_false h5
      refine sq (rg (xs rfl rfl (nl (et (ev_ret (evr_then (ret_pure' ttOk rfl rfl (congrArg bR (?_ : _ = _)))))))))
      first | rfl | (exfalso; simp_all; done) | (exfalso; omega)
     ·try have d5 := of_decide_eq_true h5
      refine ev_skip (et (sq (sq (rg (xf ttOk rfl rfl (xl ttOk rfl rfl (xf ttOk rfl rfl (xl ttOk rfl rfl (evl_call (nm := 38) (cf rfl) (e_marks _) (rs_of rfl) rfl rfl rfl (xo (q_not rfl) rfl (nl (et (ev_cond_n rfl (fun h6 => ?_) (fun h6 => ?_))))))))))))))
      ·try have d6 := of_decide_eq_false h6
       refine sq (rg (xs rfl rfl (nl (et (ev_ret (evr_then (ret_pure' ttOk rfl rfl (congrArg bR (?_ : _ = _)))))))))
       first | rfl | (exfalso; simp_all; done) | (exfalso; omega)
      ·try have d6 := of_decide_eq_true h6
       refine ev_skip (et (sq (sq (rg (xf ttOk rfl rfl (xl ttOk rfl rfl (xf ttOk rfl rfl (xl ttOk rfl rfl (xb ttOk rfl rfl (nl (et (ev_cond rfl (fun h7 => ?_) (fun h7 => ?_)))))))))))))
       ·try have d7 := of_decide_eq_true h7
        refine sq (rg (xs rfl rfl (nl (et (ev_ret (evr_then (ret_pure' ttOk rfl rfl (congrArg bR (?_ : _ = _)))))))))
        first | rfl | (exfalso; simp_all; done) | (exfalso; omega)
       ·try have d7 := of_decide_eq_false h7
        refine ev_skip (et (sq (sq (rg (xf ttOk rfl rfl (xl ttOk rfl rfl (xf ttOk rfl rfl (xl ttOk rfl rfl (evl_call (nm := 49) (cf rfl) (e_acks _) (rs_of rfl) rfl rfl rfl (xo (q_not rfl) rfl (nl (et (ev_cond_n rfl (fun h8 => ?_) (fun h8 => ?_))))))))))))))
        ·try have d8 := of_decide_eq_false h8
         refine sq (rg (xs rfl rfl (nl (et (ev_ret (evr_then (ret_pure' ttOk rfl rfl (congrArg bR (?_ : _ = _)))))))))
         first | rfl | (exfalso; simp_all; done) | (exfalso; omega)
        ·try have d8 := of_decide_eq_true h8
         refine ev_skip (et (sq (rg (xs rfl rfl (nl (et (ev_ret (ret_pure' ttOk rfl rfl (congrArg bR (?_ : _ = _))))))))))
         first | rfl | (exfalso; simp_all; done) | (exfalso; omega)
def eqHd (a b : Head) : Bool := decide (a.num = b.num) && (decide (a.base = b.base) && (decide (a.time = b.time) && eqN Mark.nums a.seen b.seen))
theorem c_l12SameHead (x y : Head) : Pure Tryz.prog 102 [many (headC x), many (headC y)] (bR (eqHd x y)) := by
 refine pure_intro (N := 31) Tryz.func102 rfl rfl rfl rfl (fun H w => ?_)
 refine sq (rg (evl_e (e_box rfl rfl rfl rfl) (evl_e (e_box rfl rfl rfl rfl) (xs rfl rfl (nl (et (sq (rg (xf ttOk rfl rfl (xl ttOk rfl rfl (xf ttOk rfl rfl (xl ttOk rfl rfl (xb ttOk rfl rfl (xm rfl rfl (evl_part rfl rfl (fun h1 => ?_) (fun h1 => ?_))))))))))))))))
 ·refine go h1 rfl rfl (q_fieldAddr ttOk rfl) rfl (go h1 rfl rfl (q_load ttOk rfl) rfl (go h1 rfl rfl (q_fieldAddr ttOk rfl) rfl (go h1 rfl rfl (q_load ttOk rfl) rfl (go h1 rfl rfl (q_bin ttOk rfl) rfl (xo (q_pick_t rfl h1 rfl) rfl (xm rfl rfl (evl_part rfl rfl (fun h2 => ?_) (fun h2 => ?_))))))))
  ·refine go h2 rfl rfl (q_fieldAddr ttOk rfl) rfl (go h2 rfl rfl (q_load ttOk rfl) rfl (go h2 rfl rfl (q_fieldAddr ttOk rfl) rfl (go h2 rfl rfl (q_load ttOk rfl) rfl (go h2 rfl rfl (q_bin ttOk rfl) rfl (xo (q_pick_t rfl h2 rfl) rfl (xm rfl rfl (evl_part rfl rfl (fun h3 => ?_) (fun h3 => ?_))))))))
   ·refine go h3 rfl rfl (q_fieldAddr ttOk rfl) rfl (go h3 rfl rfl (q_load ttOk rfl) rfl (go h3 rfl rfl (q_fieldAddr ttOk rfl) rfl (go h3 rfl rfl (q_load ttOk rfl) rfl (evl_callg rfl rfl h3 (nm := 29) (cf rfl) (c_SameSeen _ _) (rs_of rfl) rfl rfl rfl (xo (q_pick_t rfl h3 rfl) rfl (xs rfl rfl (nl (et (ev_ret (ret_pure' ttOk rfl rfl (congrArg bR (?_ : _ = _))))))))))))
    simp_all [eqHd]
   ·refine gn h3 rfl rfl rfl (gn h3 rfl rfl rfl (gn h3 rfl rfl rfl (gn h3 rfl rfl rfl (gn h3 rfl rfl rfl (xo (q_pick_f rfl h3 rfl) rfl (xs rfl rfl (nl (et (ev_ret (ret_pure' ttOk rfl rfl (congrArg bR (?_ : _ = _))))))))))))
    simp_all [eqHd]
  ·refine gn h2 rfl rfl rfl (gn h2 rfl rfl rfl (gn h2 rfl rfl rfl (gn h2 rfl rfl rfl (gn h2 rfl rfl rfl (xo (q_pick_f rfl h2 rfl) rfl (xm rfl rfl (gn rfl rfl rfl rfl (gn rfl rfl rfl rfl (gn rfl rfl rfl rfl (gn rfl rfl rfl rfl (gn rfl rfl rfl rfl (xo (q_pick_f rfl rfl rfl) rfl (xs rfl rfl (nl (et (ev_ret (ret_pure' ttOk rfl rfl (congrArg bR (?_ : _ = _)))))))))))))))))))
   simp_all [eqHd]
 ·refine gn h1 rfl rfl rfl (gn h1 rfl rfl rfl (gn h1 rfl rfl rfl (gn h1 rfl rfl rfl (gn h1 rfl rfl rfl (xo (q_pick_f rfl h1 rfl) rfl (xm rfl rfl (gn rfl rfl rfl rfl (gn rfl rfl rfl rfl (gn rfl rfl rfl rfl (gn rfl rfl rfl rfl (gn rfl rfl rfl rfl (xo (q_pick_f rfl rfl rfl) rfl (xm rfl rfl (gn rfl rfl rfl rfl (gn rfl rfl rfl rfl (gn rfl rfl rfl rfl (gn rfl rfl rfl rfl (gn rfl rfl rfl rfl (xo (q_pick_f rfl rfl rfl) rfl (xs rfl rfl (nl (et (ev_ret (ret_pure' ttOk rfl rfl (congrArg bR (?_ : _ = _))))))))))))))))))))))))))
  simp_all [eqHd]
theorem c_sameHead (x y : Head) : Pure Tryz.prog 88 [many (headC x), many (headC y)] (bR (eqHd x y)) := by
 refine pure_intro (N := 31) Tryz.func88 rfl rfl rfl rfl (fun H w => ?_)
 refine sq (rg (evl_e (e_box rfl rfl rfl rfl) (evl_e (e_box rfl rfl rfl rfl) (xs rfl rfl (nl (et (sq (rg (xf ttOk rfl rfl (xl ttOk rfl rfl (xf ttOk rfl rfl (xl ttOk rfl rfl (xb ttOk rfl rfl (xm rfl rfl (evl_part rfl rfl (fun h1 => ?_) (fun h1 => ?_))))))))))))))))
 ·refine go h1 rfl rfl (q_fieldAddr ttOk rfl) rfl (go h1 rfl rfl (q_load ttOk rfl) rfl (go h1 rfl rfl (q_fieldAddr ttOk rfl) rfl (go h1 rfl rfl (q_load ttOk rfl) rfl (go h1 rfl rfl (q_bin ttOk rfl) rfl (xo (q_pick_t rfl h1 rfl) rfl (xm rfl rfl (evl_part rfl rfl (fun h2 => ?_) (fun h2 => ?_))))))))
  ·refine go h2 rfl rfl (q_fieldAddr ttOk rfl) rfl (go h2 rfl rfl (q_load ttOk rfl) rfl (go h2 rfl rfl (q_fieldAddr ttOk rfl) rfl (go h2 rfl rfl (q_load ttOk rfl) rfl (go h2 rfl rfl (q_bin ttOk rfl) rfl (xo (q_pick_t rfl h2 rfl) rfl (xm rfl rfl (evl_part rfl rfl (fun h3 => ?_) (fun h3 => ?_))))))))
   ·refine go h3 rfl rfl (q_fieldAddr ttOk rfl) rfl (go h3 rfl rfl (q_load ttOk rfl) rfl (go h3 rfl rfl (q_fieldAddr ttOk rfl) rfl (go h3 rfl rfl (q_load ttOk rfl) rfl (evl_callg rfl rfl h3 (nm := 29) (cf rfl) (c_SameSeen' _ _) (rs_of rfl) rfl rfl rfl (xo (q_pick_t rfl h3 rfl) rfl (xs rfl rfl (nl (et (ev_ret (ret_pure' ttOk rfl rfl (congrArg bR (?_ : _ = _))))))))))))
    simp_all [eqHd]
   ·refine gn h3 rfl rfl rfl (gn h3 rfl rfl rfl (gn h3 rfl rfl rfl (gn h3 rfl rfl rfl (gn h3 rfl rfl rfl (xo (q_pick_f rfl h3 rfl) rfl (xs rfl rfl (nl (et (ev_ret (ret_pure' ttOk rfl rfl (congrArg bR (?_ : _ = _))))))))))))
    simp_all [eqHd]
  ·refine gn h2 rfl rfl rfl (gn h2 rfl rfl rfl (gn h2 rfl rfl rfl (gn h2 rfl rfl rfl (gn h2 rfl rfl rfl (xo (q_pick_f rfl h2 rfl) rfl (xm rfl rfl (gn rfl rfl rfl rfl (gn rfl rfl rfl rfl (gn rfl rfl rfl rfl (gn rfl rfl rfl rfl (gn rfl rfl rfl rfl (xo (q_pick_f rfl rfl rfl) rfl (xs rfl rfl (nl (et (ev_ret (ret_pure' ttOk rfl rfl (congrArg bR (?_ : _ = _)))))))))))))))))))
   simp_all [eqHd]
 ·refine gn h1 rfl rfl rfl (gn h1 rfl rfl rfl (gn h1 rfl rfl rfl (gn h1 rfl rfl rfl (gn h1 rfl rfl rfl (xo (q_pick_f rfl h1 rfl) rfl (xm rfl rfl (gn rfl rfl rfl rfl (gn rfl rfl rfl rfl (gn rfl rfl rfl rfl (gn rfl rfl rfl rfl (gn rfl rfl rfl rfl (xo (q_pick_f rfl rfl rfl) rfl (xm rfl rfl (gn rfl rfl rfl rfl (gn rfl rfl rfl rfl (gn rfl rfl rfl rfl (gn rfl rfl rfl rfl (gn rfl rfl rfl rfl (xo (q_pick_f rfl rfl rfl) rfl (xs rfl rfl (nl (et (ev_ret (ret_pure' ttOk rfl rfl (congrArg bR (?_ : _ = _))))))))))))))))))))))))))
  simp_all [eqHd]
def zeroD : Disk := ⟨[], []⟩
def zeroT : Two := ⟨zeroD, zeroD⟩
def wroteOk (d : Disk) (x : Int) (row : List Int) : Bool := hasAt d x && (rowOk row && decide (d.wait.length < 60))
theorem wroteOk1 {d : Disk} {x : Int} {row : List Int} (h : hasAt d x = false) : wroteOk d x row = false := by simp [wroteOk, h]
theorem wroteOk2 {d : Disk} {x : Int} {row : List Int} (h : rowOk row = false) : wroteOk d x row = false := by simp [wroteOk, h]
theorem wroteOk3 {d : Disk} {x : Int} {row : List Int} (h : 60 ≤ d.wait.length) : wroteOk d x row = false := by
 have : ¬ d.wait.length < 60 := by omega
 simp [wroteOk, this]
def wroteF (d : Disk) (x : Int) (row : List Int) : Disk × Bool := if diskOk d then if wroteOk d x row then (⟨d.kept, d.wait ++ [(x, row)]⟩, true) else (d, false) else (zeroD, false)
theorem wrote_no {d : Disk} {x : Int} {row : List Int} (h : diskOk d = false) : wroteF d x row = (zeroD, false) := by simp [wroteF, h]
theorem wrote_fail {d : Disk} {x : Int} {row : List Int} (h : diskOk d = true) (h2 : wroteOk d x row = false) : wroteF d x row = (d, false) := by simp [wroteF, h, h2]
theorem wrote_yes {d : Disk} {x : Int} {row : List Int} (h : diskOk d = true) (h2 : wroteOk d x row = true) : wroteF d x row = (⟨d.kept, d.wait ++ [(x, row)]⟩, true) := by simp [wroteF, h, h2]
def bothWroteF (t : Two) (x : Int) (row : List Int) : Two × Bool := if twoOk t then if canSum row && ((wroteF t.a x (withSumF row)).2 && (wroteF t.b x (withSumF row)).2) then (⟨(wroteF t.a x (withSumF row)).1, (wroteF t.b x (withSumF row)).1⟩, true) else (t, false) else (zeroT, false)
theorem both_no {t : Two} {x : Int} {row : List Int} (h : twoOk t = false) : bothWroteF t x row = (zeroT, false) := by simp [bothWroteF, h]
theorem both_fail {t : Two} {x : Int} {row : List Int} (h : twoOk t = true) (h2 : (canSum row && ((wroteF t.a x (withSumF row)).2 && (wroteF t.b x (withSumF row)).2)) = false) : bothWroteF t x row = (t, false) := by simp only [bothWroteF, h, h2]; rfl
theorem both_yes {t : Two} {x : Int} {row : List Int} (h : twoOk t = true) (h1 : canSum row = true) (h2 : (wroteF t.a x (withSumF row)).2 = true) (h3 : (wroteF t.b x (withSumF row)).2 = true) : bothWroteF t x row = (⟨(wroteF t.a x (withSumF row)).1, (wroteF t.b x (withSumF row)).1⟩, true) := by simp [bothWroteF, h, h1, h2, h3]
theorem withSum_len {l : List Int} : (withSumF l).length ≤ 48 ∧ ((withSumF l).length = 0 ↔ canSum l = false) := by
 unfold withSumF
 split
 ·rename_i h
  have := h
  simp only [canSum, Bool.and_eq_true, decide_eq_true_eq] at this
  exact ⟨by simp; omega, by simp [h]⟩
 ·rename_i h
  exact ⟨by simp, by simp [h]⟩
theorem c_Wrote (d : Disk) (x : Int) (row : List Int) : Pure Tryz.prog 238 [many (diskC d), one (iC x), one (ints row)] [many' (diskR ((wroteF d x row).1)), one' (RC.v (.bool ((wroteF d x row).2)))] := by
 refine pure_intro (N := 41) Tryz.func238 rfl rfl rfl rfl (fun H w => ?_)
 refine sq (rg (evl_e (e_box rfl rfl rfl rfl) (evl_e (e_alloc ttOk rfl rfl rfl rfl) (xs rfl rfl (nl (et (sq (sq (rg (xl ttOk rfl rfl (evl_call (nm := 10) (cf rfl) (c_DiskOk d) (rs_of rfl) rfl rfl rfl (xo (q_not rfl) rfl (nl (et (ev_cond_n rfl (fun h1 => ?_) (fun h1 => ?_))))))))))))))))
 try have d1 := of_decide_eq_false h1
 refine sq (rg (xo (q_build ttOk rfl) rfl (xst ttOk rfl rfl (xs rfl rfl (nl (et (ev_ret (evr_then (ret_pureN ttOk rfl rfl ?_)))))))))
 rotate_left
 try have d1 := of_decide_eq_true h1
 have hs := diskOk_sizes h1
 refine ev_skip (et (sq (rg (xl ttOk rfl rfl (evl_call (nm := 14) (cf rfl) (c_l3Copy d ‹_›) (rs_of rfl) rfl rfl rfl (evl_e (e_alloc ttOk rfl rfl rfl rfl) (xst ttOk rfl rfl (nl (et (sq (sq (rg (xl ttOk rfl rfl (xm rfl rfl (evl_call (nm := 17) (cf rfl) (c_l3Has d _) (rs_of rfl) rfl rfl rfl (xo (q_not rfl) rfl (xm rfl rfl (evl_partn rfl rfl (fun h2 => ?_) (fun h2 => ?_)))))))))))))))))))
 try have d2 := of_decide_eq_false h2
 refine gn (nt h2) rfl rfl rfl (gn (nt h2) rfl rfl rfl (gn (nt h2) rfl rfl rfl (xo (q_pick_t rfl (nt h2) rfl) rfl (xm rfl rfl (gn rfl rfl rfl rfl (gn rfl rfl rfl rfl (gn rfl rfl rfl rfl (gn rfl rfl rfl rfl (xo (q_pick_t rfl rfl rfl) rfl (nl (et (ev_cond_kt rfl rfl (sq (rg (xl ttOk rfl rfl (xst ttOk rfl rfl (xs rfl rfl (nl (et (ev_ret (evr_then (ret_pureN ttOk rfl rfl ?_))))))))))))))))))))))
 rotate_left
 try have d2 := of_decide_eq_true h2
 refine gm (nf h2) rfl rfl rfl rfl (evl_callg rfl rfl (nf h2) (nm := 21) (cf rfl) (c_RowOk _) (rs_of rfl) rfl rfl rfl (go (nf h2) rfl rfl (q_not rfl) rfl (xo (q_pick_f rfl (nf h2) rfl) rfl (xm rfl rfl (evl_partn rfl rfl (fun h3 => ?_) (fun h3 => ?_))))))
 try have d3 := of_decide_eq_false h3
 refine gn (nt h3) rfl rfl rfl (gn (nt h3) rfl rfl rfl (gn (nt h3) rfl rfl rfl (gn (nt h3) rfl rfl rfl (xo (q_pick_t rfl (nt h3) rfl) rfl (nl (et (ev_cond_kt rfl rfl (sq (rg (xl ttOk rfl rfl (xst ttOk rfl rfl (xs rfl rfl (nl (et (ev_ret (evr_then (ret_pureN ttOk rfl rfl ?_)))))))))))))))))
 rotate_left
 try have d3 := of_decide_eq_true h3
 have hr := (rowOk_nums h3).1
 refine go (nf h3) rfl rfl (q_fieldAddr ttOk rfl) rfl (go (nf h3) rfl rfl (q_load ttOk rfl) rfl (go (nf h3) rfl rfl (q_len_map ttOk rfl rfl) rfl (go (nf h3) rfl rfl (q_bin ttOk rfl) rfl (xo (q_pick_f rfl (nf h3) rfl) rfl (nl (et (ev_cond rfl (fun h4 => ?_) (fun h4 => ?_))))))))
 try have d4 := of_decide_eq_true h4
 refine sq (rg (xl ttOk rfl rfl (xst ttOk rfl rfl (xs rfl rfl (nl (et (ev_ret (evr_then (ret_pureN ttOk rfl rfl ?_)))))))))
 rotate_left
 try have d4 := of_decide_eq_false h4
 refine ev_skip (et (sq (ev_drawq [7, 9] mo (rk0 0 rfl (q_fieldAddr ttOk rfl) rfl (rk0 1 rfl (q_load ttOk rfl) rfl (rk0 2 rfl (q_move rfl) rfl (rk0 3 rfl (q_move rfl) rfl (rdk_one 4 kr (rdo_call (nm := 35) rfl trivial (cf rfl) (c_l1Copy _ om) (rs_of rfl) rfl rfl rfl (rk0 5 rfl (q_build ttOk rfl) rfl (rdk_one 6 kr (rdo_new rfl trivial (e_lit ttOk rfl rfl rfl) (rdk_one 7 kr (rdo_brk rfl rfl trivial (e_app ttOk rfl rfl rfl rfl rfl rfl rfl (by simp; omega) rfl rfl) (rdb_q 8 rfl kr trivial (q_fieldAddr ttOk rfl) rfl (rdb_eff 9 rfl kr trivial (e_store ttOk rfl) (rdb_endq kr (et (ev_pr [6, 7, 8, 40] rfl (sq (rg (xl ttOk rfl rfl (xst ttOk rfl rfl (xs rfl rfl (nl (et (ev_ret (ret_pureN ttOk rfl rfl ?_))))))))))))))))))))))))))))
 rotate_left
 all_goals
  first
  | (rw [wrote_no ‹_›]; simp [RpLe, L2, RcLe, zeroD]; done)
  | (rw [wrote_fail ‹_› (wroteOk1 ‹_›)]; simp [RpLe, L2, RcLe]; done)
  | (rw [wrote_fail ‹_› (wroteOk2 ‹_›)]; simp [RpLe, L2, RcLe]; done)
  | (rw [wrote_fail ‹_› (wroteOk3 om)]; simp [RpLe, L2, RcLe]; done)
  | (rw [wrote_yes ‹_› (by simp only [wroteOk, Bool.and_eq_true, decide_eq_true_eq]; exact ⟨by assumption, by assumption, by omega⟩)]; simp [RpLe, L2, RcLe]; done)
theorem c_Wrote' (d : Disk) (x : Int) (row : List Int) : Pure Tryz.prog 250 [many (diskC d), one (iC x), one (ints row)] [many' (diskR ((wroteF d x row).1)), one' (RC.v (.bool ((wroteF d x row).2)))] := by
 refine pure_intro (N := 41) Tryz.func250 rfl rfl rfl rfl (fun H w => ?_)
 refine sq (rg (evl_e (e_box rfl rfl rfl rfl) (evl_e (e_alloc ttOk rfl rfl rfl rfl) (xs rfl rfl (nl (et (sq (sq (rg (xl ttOk rfl rfl (evl_call (nm := 10) (cf rfl) (c_DiskOk' d) (rs_of rfl) rfl rfl rfl (xo (q_not rfl) rfl (nl (et (ev_cond_n rfl (fun h1 => ?_) (fun h1 => ?_))))))))))))))))
 try have d1 := of_decide_eq_false h1
 refine sq (rg (xo (q_build ttOk rfl) rfl (xst ttOk rfl rfl (xs rfl rfl (nl (et (ev_ret (evr_then (ret_pureN ttOk rfl rfl ?_)))))))))
 rotate_left
 try have d1 := of_decide_eq_true h1
 have hs := diskOk_sizes h1
 refine ev_skip (et (sq (rg (xl ttOk rfl rfl (evl_call (nm := 14) (cf rfl) (c_copyDisk d ‹_›) (rs_of rfl) rfl rfl rfl (evl_e (e_alloc ttOk rfl rfl rfl rfl) (xst ttOk rfl rfl (nl (et (sq (sq (rg (xl ttOk rfl rfl (xm rfl rfl (evl_call (nm := 17) (cf rfl) (c_sectorOk d _) (rs_of rfl) rfl rfl rfl (xo (q_not rfl) rfl (xm rfl rfl (evl_partn rfl rfl (fun h2 => ?_) (fun h2 => ?_)))))))))))))))))))
 try have d2 := of_decide_eq_false h2
 refine gn (nt h2) rfl rfl rfl (gn (nt h2) rfl rfl rfl (gn (nt h2) rfl rfl rfl (xo (q_pick_t rfl (nt h2) rfl) rfl (xm rfl rfl (gn rfl rfl rfl rfl (gn rfl rfl rfl rfl (gn rfl rfl rfl rfl (gn rfl rfl rfl rfl (xo (q_pick_t rfl rfl rfl) rfl (nl (et (ev_cond_kt rfl rfl (sq (rg (xl ttOk rfl rfl (xst ttOk rfl rfl (xs rfl rfl (nl (et (ev_ret (evr_then (ret_pureN ttOk rfl rfl ?_))))))))))))))))))))))
 rotate_left
 try have d2 := of_decide_eq_true h2
 refine gm (nf h2) rfl rfl rfl rfl (evl_callg rfl rfl (nf h2) (nm := 21) (cf rfl) (c_RowOk' _) (rs_of rfl) rfl rfl rfl (go (nf h2) rfl rfl (q_not rfl) rfl (xo (q_pick_f rfl (nf h2) rfl) rfl (xm rfl rfl (evl_partn rfl rfl (fun h3 => ?_) (fun h3 => ?_))))))
 try have d3 := of_decide_eq_false h3
 refine gn (nt h3) rfl rfl rfl (gn (nt h3) rfl rfl rfl (gn (nt h3) rfl rfl rfl (gn (nt h3) rfl rfl rfl (xo (q_pick_t rfl (nt h3) rfl) rfl (nl (et (ev_cond_kt rfl rfl (sq (rg (xl ttOk rfl rfl (xst ttOk rfl rfl (xs rfl rfl (nl (et (ev_ret (evr_then (ret_pureN ttOk rfl rfl ?_)))))))))))))))))
 rotate_left
 try have d3 := of_decide_eq_true h3
 have hr := (rowOk_nums h3).1
 refine go (nf h3) rfl rfl (q_fieldAddr ttOk rfl) rfl (go (nf h3) rfl rfl (q_load ttOk rfl) rfl (go (nf h3) rfl rfl (q_len_map ttOk rfl rfl) rfl (go (nf h3) rfl rfl (q_bin ttOk rfl) rfl (xo (q_pick_f rfl (nf h3) rfl) rfl (nl (et (ev_cond rfl (fun h4 => ?_) (fun h4 => ?_))))))))
 try have d4 := of_decide_eq_true h4
 refine sq (rg (xl ttOk rfl rfl (xst ttOk rfl rfl (xs rfl rfl (nl (et (ev_ret (evr_then (ret_pureN ttOk rfl rfl ?_)))))))))
 rotate_left
 try have d4 := of_decide_eq_false h4
 refine ev_skip (et (sq (ev_drawq [7, 9] mo (rk0 0 rfl (q_fieldAddr ttOk rfl) rfl (rk0 1 rfl (q_load ttOk rfl) rfl (rk0 2 rfl (q_move rfl) rfl (rk0 3 rfl (q_move rfl) rfl (rdk_one 4 kr (rdo_call (nm := 35) rfl trivial (cf rfl) (c_copyRow _ om) (rs_of rfl) rfl rfl rfl (rk0 5 rfl (q_build ttOk rfl) rfl (rdk_one 6 kr (rdo_new rfl trivial (e_lit ttOk rfl rfl rfl) (rdk_one 7 kr (rdo_brk rfl rfl trivial (e_app ttOk rfl rfl rfl rfl rfl rfl rfl (by simp; omega) rfl rfl) (rdb_q 8 rfl kr trivial (q_fieldAddr ttOk rfl) rfl (rdb_eff 9 rfl kr trivial (e_store ttOk rfl) (rdb_endq kr (et (ev_pr [6, 7, 8, 40] rfl (sq (rg (xl ttOk rfl rfl (xst ttOk rfl rfl (xs rfl rfl (nl (et (ev_ret (ret_pureN ttOk rfl rfl ?_))))))))))))))))))))))))))))
 rotate_left
 all_goals
  first
  | (rw [wrote_no ‹_›]; simp [RpLe, L2, RcLe, zeroD]; done)
  | (rw [wrote_fail ‹_› (wroteOk1 ‹_›)]; simp [RpLe, L2, RcLe]; done)
  | (rw [wrote_fail ‹_› (wroteOk2 ‹_›)]; simp [RpLe, L2, RcLe]; done)
  | (rw [wrote_fail ‹_› (wroteOk3 om)]; simp [RpLe, L2, RcLe]; done)
  | (rw [wrote_yes ‹_› (by simp only [wroteOk, Bool.and_eq_true, decide_eq_true_eq]; exact ⟨by assumption, by assumption, by omega⟩)]; simp [RpLe, L2, RcLe]; done)
theorem c_BothWrote (t : Two) (x : Int) (row : List Int) : Pure Tryz.prog 199 [many (twoC t), one (iC x), one (ints row)] [many' (twoR ((bothWroteF t x row).1)), one' (RC.v (.bool ((bothWroteF t x row).2)))] := by
 refine pure_intro (N := 51) Tryz.func199 rfl rfl rfl rfl (fun H w => ?_)
 have hsl := withSum_len (l := row)
 refine sq (rg (evl_e (e_box rfl rfl rfl rfl) (evl_e (e_alloc ttOk rfl rfl rfl rfl) (xs rfl rfl (nl (et (sq (sq (rg (xl ttOk rfl rfl (evl_call (nm := 14) (cf rfl) (c_TwoOk t) (rs_of rfl) rfl rfl rfl (xo (q_not rfl) rfl (nl (et (ev_cond_n rfl (fun h1 => ?_) (fun h1 => ?_))))))))))))))))
 ·refine sq (rg (xo (q_build ttOk rfl) rfl (xst ttOk rfl rfl (xs rfl rfl (nl (et (ev_ret (evr_then (ret_pureN ttOk rfl rfl ?_)))))))))
  first
  | (rw [both_no ‹_›]; simp [RpLe, L2, RcLe, zeroD, zeroT]; done)
  | (rw [both_yes ‹_› ‹_› ‹_› ‹_›]; simp [RpLe, L2, RcLe]; done)
  | (rw [both_fail ‹_› (by simp_all; done)]; simp [RpLe, L2, RcLe]; done)
  | (exfalso; simp_all; done)
 ·obtain ⟨hka, hkb⟩ := twoOk_both h1
  refine ev_skip (et (sq (rg (xm rfl rfl (evl_call (nm := 18) (cf rfl) (c_WithSum row) (rs_of rfl) rfl rfl rfl (xs rfl rfl (nl (et (sq (rg (xf ttOk rfl rfl (xl ttOk rfl rfl (xm rfl rfl (xm rfl rfl ?_))))))))))))))
  first | refine evl_call (nm := 24) (cf rfl) (c_Wrote t.a x (withSumF row)) (rs_of rfl) rfl rfl rfl ?_ | refine evl_call (nm := 24) (cf rfl) (c_Wrote t.b x (withSumF row)) (rs_of rfl) rfl rfl rfl ?_
  refine xm rfl rfl (xo (q_ext rfl) rfl (xo (q_ext rfl) rfl (evl_e (e_alloc ttOk rfl rfl rfl rfl) (xst ttOk rfl rfl (xs rfl rfl (nl (et (sq (rg (xf ttOk rfl rfl (xl ttOk rfl rfl (xm rfl rfl (xm rfl rfl ?_)))))))))))))
  first | refine evl_call (nm := 32) (cf rfl) (c_Wrote t.a x (withSumF row)) (rs_of rfl) rfl rfl rfl ?_ | refine evl_call (nm := 32) (cf rfl) (c_Wrote t.b x (withSumF row)) (rs_of rfl) rfl rfl rfl ?_
  refine xm rfl rfl (xo (q_ext rfl) rfl (xo (q_ext rfl) rfl (evl_e (e_alloc ttOk rfl rfl rfl rfl) (xst ttOk rfl rfl (xs rfl rfl (nl (et (sq (sq (rg (xm rfl rfl (xo (q_len_rtm ttOk rfl rfl rfl) rfl (xb ttOk rfl rfl (xm rfl rfl (evl_part rfl rfl (fun h2 => ?_) (fun h2 => ?_))))))))))))))))
  ·have hcs : canSum row = false := by have := hsl.2; cases hc : canSum row <;> simp_all
   refine gn h2 rfl rfl rfl (gn h2 rfl rfl rfl (xo (q_pick_t rfl h2 rfl) rfl (xm rfl rfl (gn rfl rfl rfl rfl (gn rfl rfl rfl rfl (xo (q_pick_t rfl rfl rfl) rfl (nl (et (ev_cond_kt rfl rfl (sq (rg (xl ttOk rfl rfl (evl_call (nm := 47) (cf rfl) (c_l4Copy t ‹_›) (rs_of rfl) rfl rfl rfl (xst ttOk rfl rfl (xs rfl rfl (nl (et (ev_ret (evr_then (ret_pureN ttOk rfl rfl ?_))))))))))))))))))))
   first
   | (rw [both_no ‹_›]; simp [RpLe, L2, RcLe, zeroD, zeroT]; done)
   | (rw [both_yes ‹_› ‹_› ‹_› ‹_›]; simp [RpLe, L2, RcLe]; done)
   | (rw [both_fail ‹_› (by simp_all; done)]; simp [RpLe, L2, RcLe]; done)
   | (exfalso; simp_all; done)
  ·have hcs : canSum row = true := by have := hsl.2; cases hc : canSum row <;> simp_all
   refine gm h2 rfl rfl rfl rfl (go h2 rfl rfl (q_not rfl) rfl (xo (q_pick_f rfl h2 rfl) rfl (xm rfl rfl (evl_partn rfl rfl (fun h3 => ?_) (fun h3 => ?_)))))
   ·refine gn (nt h3) rfl rfl rfl (gn (nt h3) rfl rfl rfl (xo (q_pick_t rfl (nt h3) rfl) rfl (nl (et (ev_cond_kt rfl rfl (sq (rg (xl ttOk rfl rfl (evl_call (nm := 47) (cf rfl) (c_l4Copy t ‹_›) (rs_of rfl) rfl rfl rfl (xst ttOk rfl rfl (xs rfl rfl (nl (et (ev_ret (evr_then (ret_pureN ttOk rfl rfl ?_))))))))))))))))
    first
    | (rw [both_no ‹_›]; simp [RpLe, L2, RcLe, zeroD, zeroT]; done)
    | (rw [both_yes ‹_› ‹_› ‹_› ‹_›]; simp [RpLe, L2, RcLe]; done)
    | (rw [both_fail ‹_› (by simp_all; done)]; simp [RpLe, L2, RcLe]; done)
    | (exfalso; simp_all; done)
   ·refine gm (nf h3) rfl rfl rfl rfl (go (nf h3) rfl rfl (q_not rfl) rfl (xo (q_pick_f rfl (nf h3) rfl) rfl (nl (et (ev_cond_n rfl (fun h4 => ?_) (fun h4 => ?_))))))
    ·refine sq (rg (xl ttOk rfl rfl (evl_call (nm := 47) (cf rfl) (c_l4Copy t ‹_›) (rs_of rfl) rfl rfl rfl (xst ttOk rfl rfl (xs rfl rfl (nl (et (ev_ret (evr_then (ret_pureN ttOk rfl rfl ?_))))))))))
     first
     | (rw [both_no ‹_›]; simp [RpLe, L2, RcLe, zeroD, zeroT]; done)
     | (rw [both_yes ‹_› ‹_› ‹_› ‹_›]; simp [RpLe, L2, RcLe]; done)
     | (rw [both_fail ‹_› (by simp_all; done)]; simp [RpLe, L2, RcLe]; done)
     | (exfalso; simp_all; done)
    ·refine ev_skip (et (sq (rg (xl ttOk rfl rfl (xl ttOk rfl rfl (xo (q_build ttOk rfl) rfl (xst ttOk rfl rfl (xs rfl rfl (nl (et (ev_ret (ret_pureN ttOk rfl rfl ?_))))))))))))
     first
     | (rw [both_no ‹_›]; simp [RpLe, L2, RcLe, zeroD, zeroT]; done)
     | (rw [both_yes ‹_› ‹_› ‹_› ‹_›]; simp [RpLe, L2, RcLe]; done)
     | (rw [both_fail ‹_› (by simp_all; done)]; simp [RpLe, L2, RcLe]; done)
     | (exfalso; simp_all; done)
end Go.Proofs.YtinmcdcmidlgpaaGreatDoor
