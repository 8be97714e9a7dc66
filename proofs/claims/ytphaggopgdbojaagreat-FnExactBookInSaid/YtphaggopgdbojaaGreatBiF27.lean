/- Walks of functions of the program, printed by a program of the prover. -/
import Derived.Test.YtphaggopgdbojaaGreatBiF16
import Derived.Test.YtphaggopgdbojaaGreatBiVG
import Derived.Test.YtphaggopgdbojaaGreatBiVP
namespace Go.Proofs.YtphaggopgdbojaaGreat
open Go.ChangeShapes Go.WideShapes Go.ChangeAt Go.RowKit
set_option linter.unusedVariables false
set_option linter.unusedSimpArgs false
set_option maxHeartbeats 1000000
set_option maxRecDepth 100000
attribute [local irreducible] EvL Ev EvE Quiet Eff Pure RDk RDb RDo
theorem h_entries (m : Nat) (q q2 : Int) (hq : q2 = q) (h : 0 ≤ q ∧ q + (9 * m : Nat) ≤ 2199023255552) : Pure Tryz.prog 88 [one (.s 9 (mk9 q m)), one (iC q2)] (iR (q + (9 * m : Nat))) := by
 refine pure_intro (N := 99) Tryz.func88 rfl rfl rfl rfl (fun H w => ?_)
 have hr := rangeLen m
 refine sq (rg (xs rfl rfl (nl (et (sq (sq (rg (xs rfl rfl (nl (et (ev_blk (ev_loop (fun i : Nat × Int => (⟨[(5, iV i.1), (0, cV (.s 9 (mk9 q m))), (1, iV i.2)], [], [], []⟩ : St)) (fun i => i.1 ≤ m ∧ i.2 = q + (9 * i.1 : Nat)) (fun i => m - i.1) (0, q2) [] (⟨by simp, by simp [hq]⟩) ⟨by (repeat first | exact trivial | refine ⟨rfl, ?_⟩), by (repeat first | exact trivial | refine ⟨rfl, ?_⟩), by (repeat first | exact trivial | refine ⟨⟨_, rfl, rfl⟩, ?_⟩), by (repeat first | exact trivial | refine ⟨⟨_, rfl, rfl⟩, ?_⟩), rfl⟩ ?_))))))))))))
 intro i hp
 obtain ⟨k, z⟩ := i
 have hp : k ≤ m ∧ z = q + (9 * k : Nat) := hp
 obtain ⟨p0, p1⟩ := hp
 show Ev _ _ _ _ (⟨[(5, iV k), (0, cV (.s 9 (mk9 q m))), (1, iV z)], [], [], []⟩ : St)
 refine sq (sq (rg (xm rfl rfl (xm rfl rfl (xo (q_len_map ttOk rfl rfl) rfl (xb ttOk rfl rfl (nl (et (ev_cond rfl (fun h1 => ?_) (fun h1 => ?_))))))))))
 · have d1 := of_decide_eq_true h1
   refine ev_skip (et (sq (ev_blk (sq (sq (rg (xm rfl rfl (xm rfl rfl (xo (q_ix_map ttOk rfl rfl rfl rfl (by omega)) rfl (xf ttOk rfl rfl (xl ttOk rfl rfl (xm rfl rfl (xb ttOk rfl rfl (nl (et (ev_cond rfl (fun h2 => ?_) (fun h2 => ?_)))))))))))))))))
   · have d2 := of_decide_eq_true h2
     refine sq (rg (xs rfl rfl (nl (et (ev_ret (evr_then (evr_blk (evr_then (evr_then (evr_blk (evr_then (ret_pure' ttOk rfl rfl (congrArg iR (?_ : _ = _))))))))))))))
     first | omega | (exfalso; simp only [List.getElem_range] at *; omega) | (simp only [List.getElem_range] at *; omega)
   · have d2 := of_decide_eq_false h2
     refine ev_skip (et (sq (rg (xm rfl rfl (xa rfl rfl rfl (by omega) rfl (xs rfl rfl (nl (et (sq (sq (rg (xm rfl rfl (xm rfl rfl (xo (q_ix_map ttOk rfl rfl rfl rfl (by omega)) rfl (xf ttOk rfl rfl (xl ttOk rfl rfl (xm rfl rfl (xb ttOk rfl rfl (nl (et (ev_cond rfl (fun h3 => ?_) (fun h3 => ?_))))))))))))))))))))))
     · have d3 := of_decide_eq_true h3
       refine sq (rg (xs rfl rfl (nl (et (ev_ret (evr_then (evr_blk (evr_then (evr_then (evr_blk (evr_then (ret_pure' ttOk rfl rfl (congrArg iR (?_ : _ = _))))))))))))))
       first | omega | (exfalso; simp only [List.getElem_range] at *; omega) | (simp only [List.getElem_range] at *; omega)
     · have d3 := of_decide_eq_false h3
       refine ev_skip (et (sq (rg (xm rfl rfl (xa rfl rfl rfl (by omega) rfl (xs rfl rfl (nl (et (sq (sq (rg (xm rfl rfl (xm rfl rfl (xo (q_ix_map ttOk rfl rfl rfl rfl (by omega)) rfl (xf ttOk rfl rfl (xl ttOk rfl rfl (xm rfl rfl (xb ttOk rfl rfl (nl (et (ev_cond rfl (fun h4 => ?_) (fun h4 => ?_))))))))))))))))))))))
       · have d4 := of_decide_eq_true h4
         refine ev_pr [0, 1, 4, 5, 6, 7, 8, 9, 10, 11, 12, 13, 14, 15, 16, 17, 18, 19, 20, 21, 22, 23, 24, 25, 26, 27, 28, 29, 30, 31, 32, 33, 34, 35, 36, 37, 38, 39, 40, 41, 42, 43, 44, 45, 46, 47, 48, 49, 50, 51, 52, 53, 54, 55, 56, 57, 58, 59, 60, 61, 62, 63, 64, 65, 66, 67, 68, 69, 70, 71, 72, 73, 74, 75, 76, 77, 78, 79, 80, 81, 82, 83, 84, 85, 86, 87, 88, 89, 90, 91, 92, 93, 94, 95, 96, 97, 98] rfl (sq (rg (xs rfl rfl (nl (et (ev_ret (evr_then (evr_blk (evr_then (evr_then (evr_blk (evr_then (ret_pure' ttOk rfl rfl (congrArg iR (?_ : _ = _)))))))))))))))
         first | omega | (exfalso; simp only [List.getElem_range] at *; omega) | (simp only [List.getElem_range] at *; omega)
       · have d4 := of_decide_eq_false h4
         refine ev_skip (et (ev_pr [0, 1, 4, 5, 6, 7, 8, 9, 10, 11, 12, 13, 14, 15, 16, 17, 18, 19, 20, 21, 22, 23, 24, 25, 26, 27, 28, 29, 30, 31, 32, 33, 34, 35, 36, 37, 38, 39, 40, 41, 42, 43, 44, 45, 46, 47, 48, 49, 50, 51, 52, 53, 54, 55, 56, 57, 58, 59, 60, 61, 62, 63, 64, 65, 66, 67, 68, 69, 70, 71, 72, 73, 74, 75, 76, 77, 78, 79, 80, 81, 82, 83, 84, 85, 86, 87, 88, 89, 90, 91, 92, 93, 94, 95, 96, 97, 98] rfl (sq (rg (xm rfl rfl (xa rfl rfl rfl (by omega) rfl (xs rfl rfl (nl (et (sq (sq (rg (xm rfl rfl (xm rfl rfl (xo (q_ix_map ttOk rfl rfl rfl rfl (by omega)) rfl (xf ttOk rfl rfl (xl ttOk rfl rfl (xm rfl rfl (xb ttOk rfl rfl (nl (et (ev_cond rfl (fun h5 => ?_) (fun h5 => ?_)))))))))))))))))))))))
         · have d5 := of_decide_eq_true h5
           refine sq (rg (xs rfl rfl (nl (et (ev_ret (evr_then (evr_blk (evr_then (evr_then (evr_blk (evr_then (ret_pure' ttOk rfl rfl (congrArg iR (?_ : _ = _))))))))))))))
           first | omega | (exfalso; simp only [List.getElem_range] at *; omega) | (simp only [List.getElem_range] at *; omega)
         · have d5 := of_decide_eq_false h5
           refine ev_skip (et (sq (rg (xm rfl rfl (xa rfl rfl rfl (by omega) rfl (xs rfl rfl (nl (et (sq (sq (rg (xm rfl rfl (xm rfl rfl (xo (q_ix_map ttOk rfl rfl rfl rfl (by omega)) rfl (xf ttOk rfl rfl (xf ttOk rfl rfl (xl ttOk rfl rfl (xm rfl rfl (xb ttOk rfl rfl (nl (et (ev_cond rfl (fun h6 => ?_) (fun h6 => ?_)))))))))))))))))))))))
           · have d6 := of_decide_eq_true h6
             refine sq (rg (xs rfl rfl (nl (et (ev_ret (evr_then (evr_blk (evr_then (evr_then (evr_blk (evr_then (ret_pure' ttOk rfl rfl (congrArg iR (?_ : _ = _))))))))))))))
             first | omega | (exfalso; simp only [List.getElem_range] at *; omega) | (simp only [List.getElem_range] at *; omega)
           · have d6 := of_decide_eq_false h6
             refine ev_skip (et (sq (rg (xm rfl rfl (xa rfl rfl rfl (by omega) rfl (xs rfl rfl (nl (et (sq (sq (rg (xm rfl rfl (xm rfl rfl (xo (q_ix_map ttOk rfl rfl rfl rfl (by omega)) rfl (xf ttOk rfl rfl (xf ttOk rfl rfl (xl ttOk rfl rfl (xm rfl rfl (xb ttOk rfl rfl (nl (et (ev_cond rfl (fun h7 => ?_) (fun h7 => ?_)))))))))))))))))))))))
             · have d7 := of_decide_eq_true h7
               refine ev_pr [0, 1, 4, 5, 6, 7, 8, 9, 10, 11, 12, 13, 14, 15, 16, 17, 18, 19, 20, 21, 22, 23, 24, 25, 26, 27, 28, 29, 30, 31, 32, 33, 34, 35, 36, 37, 38, 39, 40, 41, 42, 43, 44, 45, 46, 47, 48, 49, 50, 51, 52, 53, 54, 55, 56, 57, 58, 59, 60, 61, 62, 63, 64, 65, 66, 67, 68, 69, 70, 71, 72, 73, 74, 75, 76, 77, 78, 79, 80, 81, 82, 83, 84, 85, 86, 87, 88, 89, 90, 91, 92, 93, 94, 95, 96, 97, 98] rfl (sq (rg (xs rfl rfl (nl (et (ev_ret (evr_then (evr_blk (evr_then (evr_then (evr_blk (evr_then (ret_pure' ttOk rfl rfl (congrArg iR (?_ : _ = _)))))))))))))))
               first | omega | (exfalso; simp only [List.getElem_range] at *; omega) | (simp only [List.getElem_range] at *; omega)
             · have d7 := of_decide_eq_false h7
               refine ev_skip (et (ev_pr [0, 1, 4, 5, 6, 7, 8, 9, 10, 11, 12, 13, 14, 15, 16, 17, 18, 19, 20, 21, 22, 23, 24, 25, 26, 27, 28, 29, 30, 31, 32, 33, 34, 35, 36, 37, 38, 39, 40, 41, 42, 43, 44, 45, 46, 47, 48, 49, 50, 51, 52, 53, 54, 55, 56, 57, 58, 59, 60, 61, 62, 63, 64, 65, 66, 67, 68, 69, 70, 71, 72, 73, 74, 75, 76, 77, 78, 79, 80, 81, 82, 83, 84, 85, 86, 87, 88, 89, 90, 91, 92, 93, 94, 95, 96, 97, 98] rfl (sq (rg (xm rfl rfl (xa rfl rfl rfl (by omega) rfl (xs rfl rfl (nl (et (sq (sq (rg (xm rfl rfl (xm rfl rfl (xo (q_ix_map ttOk rfl rfl rfl rfl (by omega)) rfl (xf ttOk rfl rfl (xf ttOk rfl rfl (xl ttOk rfl rfl (xm rfl rfl (xb ttOk rfl rfl (nl (et (ev_cond rfl (fun h8 => ?_) (fun h8 => ?_))))))))))))))))))))))))
               · have d8 := of_decide_eq_true h8
                 refine sq (rg (xs rfl rfl (nl (et (ev_ret (evr_then (evr_blk (evr_then (evr_then (evr_blk (evr_then (ret_pure' ttOk rfl rfl (congrArg iR (?_ : _ = _))))))))))))))
                 first | omega | (exfalso; simp only [List.getElem_range] at *; omega) | (simp only [List.getElem_range] at *; omega)
               · have d8 := of_decide_eq_false h8
                 refine ev_skip (et (sq (rg (xm rfl rfl (xa rfl rfl rfl (by omega) rfl (xs rfl rfl (nl (et (sq (sq (rg (xm rfl rfl (xm rfl rfl (xo (q_ix_map ttOk rfl rfl rfl rfl (by omega)) rfl (xf ttOk rfl rfl (xf ttOk rfl rfl (xl ttOk rfl rfl (xm rfl rfl (xb ttOk rfl rfl (nl (et (ev_cond rfl (fun h9 => ?_) (fun h9 => ?_)))))))))))))))))))))))
                 · have d9 := of_decide_eq_true h9
                   refine sq (rg (xs rfl rfl (nl (et (ev_ret (evr_then (evr_blk (evr_then (evr_then (evr_blk (evr_then (ret_pure' ttOk rfl rfl (congrArg iR (?_ : _ = _))))))))))))))
                   first | omega | (exfalso; simp only [List.getElem_range] at *; omega) | (simp only [List.getElem_range] at *; omega)
                 · have d9 := of_decide_eq_false h9
                   refine ev_skip (et (sq (rg (xm rfl rfl (xa rfl rfl rfl (by omega) rfl (xs rfl rfl (nl (et (ev_pr [0, 1, 4, 5, 6, 7, 8, 9, 10, 11, 12, 13, 14, 15, 16, 17, 18, 19, 20, 21, 22, 23, 24, 25, 26, 27, 28, 29, 30, 31, 32, 33, 34, 35, 36, 37, 38, 39, 40, 41, 42, 43, 44, 45, 46, 47, 48, 49, 50, 51, 52, 53, 54, 55, 56, 57, 58, 59, 60, 61, 62, 63, 64, 65, 66, 67, 68, 69, 70, 71, 72, 73, 74, 75, 76, 77, 78, 79, 80, 81, 82, 83, 84, 85, 86, 87, 88, 89, 90, 91, 92, 93, 94, 95, 96, 97, 98] rfl (sq (sq (rg (xm rfl rfl (xm rfl rfl (xo (q_ix_map ttOk rfl rfl rfl rfl (by omega)) rfl (xf ttOk rfl rfl (xf ttOk rfl rfl (xl ttOk rfl rfl (xm rfl rfl (xb ttOk rfl rfl (nl (et (ev_cond rfl (fun h10 => ?_) (fun h10 => ?_))))))))))))))))))))))))
                   · have d10 := of_decide_eq_true h10
                     refine sq (rg (xs rfl rfl (nl (et (ev_ret (evr_then (evr_blk (evr_then (evr_then (evr_blk (evr_then (ret_pure' ttOk rfl rfl (congrArg iR (?_ : _ = _))))))))))))))
                     first | omega | (exfalso; simp only [List.getElem_range] at *; omega) | (simp only [List.getElem_range] at *; omega)
                   · have d10 := of_decide_eq_false h10
                     refine ev_skip (et (rg (xm rfl rfl (xa rfl rfl rfl (by omega) rfl (xs rfl rfl (nl (eb (et (rg (xm rfl rfl (xa rfl rfl rfl (by omega) rfl (xs rfl rfl (nl (eve_round (k + 1, _) [] ?hp ⟨by (repeat first | exact trivial | refine ⟨rfl, ?_⟩), by (repeat first | exact trivial | refine ⟨rfl, ?_⟩), by (repeat first | exact trivial | refine ⟨⟨_, rfl, rfl⟩, ?_⟩), by (repeat first | exact trivial | refine ⟨⟨_, rfl, rfl⟩, ?_⟩), rfl⟩))))))))))))))
                     case hp =>
                       dsimp only
                       exact ⟨⟨by omega, by omega⟩, by omega⟩
 · have d1 := of_decide_eq_false h1
   refine ev_exit (evx_then (evx_then (evx_hit (et (sq (rg (xm rfl rfl (xs rfl rfl (nl (et (ev_ret (ret_pure' ttOk rfl rfl (congrArg iR (?_ : _ = _))))))))))))))
   first | omega | (exfalso; simp only [List.getElem_range] at *; omega) | (simp only [List.getElem_range] at *; omega)
end Go.Proofs.YtphaggopgdbojaaGreat
namespace Go.Proofs.YtphaggopgdbojaaGreat
open Go.ChangeShapes Go.WideShapes Go.ChangeAt Go.RowKit
set_option linter.unusedVariables false
set_option linter.unusedSimpArgs false
set_option maxHeartbeats 1000000
set_option maxRecDepth 100000
attribute [local irreducible] EvL Ev EvE Quiet Eff Pure RDk RDb RDo
theorem sumN_lenS : ∀ W : List (Int × List Int), sumN lenS W = W.length + sumN (fun x => x.2.length) W
  | [] => rfl
  | x :: W => by
    have := sumN_lenS W
    simp only [sumN, List.map_cons, List.sum_cons, List.length_cons, lenS] at *
    omega
theorem smD_of {d : Disk} (h : diskN d ≤ 1048576) : smD d := by
  have := sumN_lenS d.wait
  unfold diskN rowsN writesN at h
  exact ⟨by omega, by omega, by unfold mkN; omega⟩
theorem smT_of {t : Two} (h : twoN t ≤ 1048576) : smT t := ⟨smD_of (by unfold twoN at h; omega), smD_of (by unfold twoN at h; omega)⟩
end Go.Proofs.YtphaggopgdbojaaGreat
namespace Go.Proofs.YtphaggopgdbojaaGreat
open Go.ChangeShapes Go.WideShapes Go.ChangeAt Go.RowKit
set_option linter.unusedVariables false
set_option linter.unusedSimpArgs false
set_option maxHeartbeats 1000000
set_option maxRecDepth 100000
attribute [local irreducible] EvL Ev EvE Quiet Eff Pure RDk RDb RDo
structure Book where
  base : Int
  time : Int
  entries : List Entry
structure LogN where
  two : Two
  head : Head
  next : Head
  more : Bool
  book : Book
  seen : List Mark
  durable : Int
  owe : List Ack
@[reducible] def bookC (x : Book) : List C := [iC x.base, iC x.time, entries x.entries]
@[reducible] def logC (n : LogN) : List C := [rows n.two.a.kept, writes n.two.a.wait, rows n.two.b.kept, writes n.two.b.wait, iC n.head.num, iC n.head.base, iC n.head.time, marks n.head.seen, iC n.next.num, iC n.next.base, iC n.next.time, marks n.next.seen, bC n.more, iC n.book.base, iC n.book.time, entries n.book.entries, marks n.seen, iC n.durable, acks n.owe]
@[reducible] def entriesR (l : List Entry) : RC := .s 100 9 (l.map entryC)
@[reducible] def acksR (l : List Ack) : RC := .s 139 4 (l.map ackC)
@[reducible] def bookR (x : Book) : List RC := [.v (.int .i64 x.base), .v (.int .i64 x.time), entriesR x.entries]
@[reducible] def logR (n : LogN) : List RC := [rowsR n.two.a.kept, writesR n.two.a.wait, rowsR n.two.b.kept, writesR n.two.b.wait, .v (.int .i64 n.head.num), .v (.int .i64 n.head.base), .v (.int .i64 n.head.time), marksR n.head.seen, .v (.int .i64 n.next.num), .v (.int .i64 n.next.base), .v (.int .i64 n.next.time), marksR n.next.seen, .v (.bool n.more),
  .v (.int .i64 n.book.base), .v (.int .i64 n.book.time), entriesR n.book.entries, marksR n.seen, .v (.int .i64 n.durable), acksR n.owe]
theorem e_op (k x1 x2 x3 x4 : Int) : Pure Tryz.prog 211 [many ([iC k, iC x1, iC x2, iC x3, iC x4]), many ([iC k, iC x1, iC x2, iC x3, iC x4])] (bR true) := by
 refine pure_intro (N := 30) Tryz.func211 rfl rfl rfl rfl (fun H w => ?_)
 refine sq (rg (evl_e (e_box rfl rfl rfl rfl) (evl_e (e_box rfl rfl rfl rfl) (xs rfl rfl (nl (et (sq (sq (rg (xf ttOk rfl rfl (xl ttOk rfl rfl (xf ttOk rfl rfl (xl ttOk rfl rfl (xb ttOk rfl rfl (nl (et (ev_cond rfl (fun h1 => ?_) (fun h1 => ?_))))))))))))))))))
 · try have d1 := of_decide_eq_true h1
   refine sq (rg (xs rfl rfl (nl (et (ev_ret (evr_then (ret_pure' ttOk rfl rfl (congrArg bR (?_ : _ = _)))))))))
   first | rfl | (exfalso; simp_all; done) | (exfalso; omega)
 · try have d1 := of_decide_eq_false h1
   refine ev_skip (et (sq (sq (rg (xf ttOk rfl rfl (xl ttOk rfl rfl (xf ttOk rfl rfl (xl ttOk rfl rfl (xb ttOk rfl rfl (nl (et (ev_cond rfl (fun h2 => ?_) (fun h2 => ?_)))))))))))))
   · try have d2 := of_decide_eq_true h2
     refine sq (rg (xs rfl rfl (nl (et (ev_ret (evr_then (ret_pure' ttOk rfl rfl (congrArg bR (?_ : _ = _)))))))))
     first | rfl | (exfalso; simp_all; done) | (exfalso; omega)
   · try have d2 := of_decide_eq_false h2
     refine ev_skip (et (sq (sq (rg (xf ttOk rfl rfl (xl ttOk rfl rfl (xf ttOk rfl rfl (xl ttOk rfl rfl (xb ttOk rfl rfl (nl (et (ev_cond rfl (fun h3 => ?_) (fun h3 => ?_)))))))))))))
     · try have d3 := of_decide_eq_true h3
       refine sq (rg (xs rfl rfl (nl (et (ev_ret (evr_then (ret_pure' ttOk rfl rfl (congrArg bR (?_ : _ = _)))))))))
       first | rfl | (exfalso; simp_all; done) | (exfalso; omega)
     · try have d3 := of_decide_eq_false h3
       refine ev_skip (et (sq (sq (rg (xf ttOk rfl rfl (xl ttOk rfl rfl (xf ttOk rfl rfl (xl ttOk rfl rfl (xb ttOk rfl rfl (nl (et (ev_cond rfl (fun h4 => ?_) (fun h4 => ?_)))))))))))))
       · try have d4 := of_decide_eq_true h4
         refine sq (rg (xs rfl rfl (nl (et (ev_ret (evr_then (ret_pure' ttOk rfl rfl (congrArg bR (?_ : _ = _)))))))))
         first | rfl | (exfalso; simp_all; done) | (exfalso; omega)
       · try have d4 := of_decide_eq_false h4
         refine ev_skip (et (sq (sq (rg (xf ttOk rfl rfl (xl ttOk rfl rfl (xf ttOk rfl rfl (xl ttOk rfl rfl (xb ttOk rfl rfl (nl (et (ev_cond rfl (fun h5 => ?_) (fun h5 => ?_)))))))))))))
         · try have d5 := of_decide_eq_true h5
           refine ev_pr [4] rfl (sq (rg (xs rfl rfl (nl (et (ev_ret (evr_then (ret_pure' ttOk rfl rfl (congrArg bR (?_ : _ = _))))))))))
           first | rfl | (exfalso; simp_all; done) | (exfalso; omega)
         · try have d5 := of_decide_eq_false h5
           refine ev_skip (et (ev_pr [4] rfl (sq (rg (xs rfl rfl (nl (et (ev_ret (ret_pure' ttOk rfl rfl (congrArg bR (?_ : _ = _)))))))))))
           first | rfl | (exfalso; simp_all; done) | (exfalso; omega)
theorem e_entry (e : Entry) : Pure Tryz.prog 153 [many (entryC e), many (entryC e)] (bR true) := by
 refine pure_intro (N := 31) Tryz.func153 rfl rfl rfl rfl (fun H w => ?_)
 refine sq (rg (evl_e (e_box rfl rfl rfl rfl) (evl_e (e_box rfl rfl rfl rfl) (xs rfl rfl (nl (et (sq (sq (rg (xf ttOk rfl rfl (xl ttOk rfl rfl (xf ttOk rfl rfl (xl ttOk rfl rfl (xb ttOk rfl rfl (nl (et (ev_cond rfl (fun h1 => ?_) (fun h1 => ?_))))))))))))))))))
 · try have d1 := of_decide_eq_true h1
   refine sq (rg (xs rfl rfl (nl (et (ev_ret (evr_then (ret_pure' ttOk rfl rfl (congrArg bR (?_ : _ = _)))))))))
   first | rfl | (exfalso; simp_all; done) | (exfalso; omega)
 · try have d1 := of_decide_eq_false h1
   refine ev_skip (et (sq (sq (rg (xf ttOk rfl rfl (xl ttOk rfl rfl (xf ttOk rfl rfl (xl ttOk rfl rfl (xb ttOk rfl rfl (nl (et (ev_cond rfl (fun h2 => ?_) (fun h2 => ?_)))))))))))))
   · try have d2 := of_decide_eq_true h2
     refine sq (rg (xs rfl rfl (nl (et (ev_ret (evr_then (ret_pure' ttOk rfl rfl (congrArg bR (?_ : _ = _)))))))))
     first | rfl | (exfalso; simp_all; done) | (exfalso; omega)
   · try have d2 := of_decide_eq_false h2
     refine ev_skip (et (sq (sq (rg (xf ttOk rfl rfl (xl ttOk rfl rfl (xf ttOk rfl rfl (xl ttOk rfl rfl (xb ttOk rfl rfl (nl (et (ev_cond rfl (fun h3 => ?_) (fun h3 => ?_)))))))))))))
     · try have d3 := of_decide_eq_true h3
       refine sq (rg (xs rfl rfl (nl (et (ev_ret (evr_then (ret_pure' ttOk rfl rfl (congrArg bR (?_ : _ = _)))))))))
       first | rfl | (exfalso; simp_all; done) | (exfalso; omega)
     · try have d3 := of_decide_eq_false h3
       refine ev_skip (et (sq (sq (rg (xf ttOk rfl rfl (xl ttOk rfl rfl (xf ttOk rfl rfl (xl ttOk rfl rfl (xb ttOk rfl rfl (nl (et (ev_cond rfl (fun h4 => ?_) (fun h4 => ?_)))))))))))))
       · try have d4 := of_decide_eq_true h4
         refine sq (rg (xs rfl rfl (nl (et (ev_ret (evr_then (ret_pure' ttOk rfl rfl (congrArg bR (?_ : _ = _)))))))))
         first | rfl | (exfalso; simp_all; done) | (exfalso; omega)
       · try have d4 := of_decide_eq_false h4
         refine ev_skip (et (sq (sq (rg (xf ttOk rfl rfl (xl ttOk rfl rfl (xf ttOk rfl rfl (xl ttOk rfl rfl (evl_call (nm := 29) (cf rfl) (e_op _ _ _ _ _) (rs_of rfl) rfl rfl rfl (xo (q_not rfl) rfl (nl (et (ev_cond_n rfl (fun h5 => ?_) (fun h5 => ?_))))))))))))))
         · try have d5 := of_decide_eq_false h5
           refine ev_pr [4] rfl (sq (rg (xs rfl rfl (nl (et (ev_ret (evr_then (ret_pure' ttOk rfl rfl (congrArg bR (?_ : _ = _))))))))))
           first | rfl | (exfalso; simp_all; done) | (exfalso; omega)
         · try have d5 := of_decide_eq_true h5
           refine ev_skip (et (ev_pr [4] rfl (sq (rg (xs rfl rfl (nl (et (ev_ret (ret_pure' ttOk rfl rfl (congrArg bR (?_ : _ = _)))))))))))
           first | rfl | (exfalso; simp_all; done) | (exfalso; omega)
theorem e_entries (l : List Entry) : Pure Tryz.prog 84 [one (entries l), one (entries l)] (bR true) := by
 refine pure_intro (N := 27) Tryz.func84 rfl rfl rfl rfl (fun H w => ?_)
 refine ev_lenm (t := 0) rfl (fun hL => ?_)
 refine ev_lenm (t := 1) rfl (fun hM => ?_)
 refine sq (rg (xs rfl rfl (nl (et (sq (sq (rg (xm rfl rfl (xo (q_len_map ttOk rfl rfl) rfl (xm rfl rfl (xo (q_len_map ttOk rfl rfl) rfl (xb ttOk rfl rfl (nl (et (ev_cond rfl (fun h1 => ?_) (fun h1 => ?_))))))))))))))))
 · try have d1 := of_decide_eq_true h1
   refine sq (rg (xs rfl rfl (nl (et (ev_ret (evr_then (ret_pure' ttOk rfl rfl (congrArg bR (?_ : _ = _)))))))))
   first | rfl | (exfalso; simp_all; done) | (exfalso; omega)
 · try have d1 := of_decide_eq_false h1
   refine ev_skip (et (sq (sq (rg (xs rfl rfl (nl (et (ev_blk (ev_loop (fun k : Nat => (⟨[(5, iV k), (0, cV (entries l)), (1, cV (entries l))], [], [], []⟩ : St)) (fun k => k ≤ l.length) (fun k => l.length - k) 0 [] (by simp) ⟨by (repeat first | exact trivial | refine ⟨rfl, ?_⟩), by (repeat first | exact trivial | refine ⟨rfl, ?_⟩), by (repeat first | exact trivial | refine ⟨⟨_, rfl, rfl⟩, ?_⟩), by (repeat first | exact trivial | refine ⟨⟨_, rfl, rfl⟩, ?_⟩), rfl⟩ ?_)))))))))
   intro k hp
   have p0 := hp
   show Ev _ _ _ _ (⟨[(5, iV k), (0, cV (entries l)), (1, cV (entries l))], [], [], []⟩ : St)
   refine sq (sq (rg (xm rfl rfl (xm rfl rfl (xo (q_len_map ttOk rfl rfl) rfl (xb ttOk rfl rfl (nl (et (ev_cond rfl (fun h2 => ?_) (fun h2 => ?_))))))))))
   · try have d2 := of_decide_eq_true h2
     refine ev_skip (et (sq (ev_blk (sq (ev_drawq [] mo (rdk_take 0 rfl (by kernel_rfl) trivial (q_move rfl) rfl (rdk_take 1 rfl (by kernel_rfl) trivial (q_move rfl) rfl (rdk_take 2 rfl (by kernel_rfl) trivial (q_ix_map ttOk rfl rfl rfl rfl (by omega)) rfl (rdk_take 3 rfl (by kernel_rfl) trivial (q_load ttOk rfl) rfl (rdk_take 4 rfl (by kernel_rfl) trivial (q_move rfl) rfl (rdk_take 5 rfl (by kernel_rfl) trivial (q_move rfl) rfl (rdk_take 6 rfl (by kernel_rfl) trivial (q_ix_map ttOk rfl rfl rfl rfl (by omega)) rfl (rdk_take 7 rfl (by kernel_rfl) trivial (q_load ttOk rfl) rfl (rdk_one 8 (by kernel_rfl) (rdo_call (nm := 25) rfl trivial (cf rfl) (e_entry ⟨_, _, _, _, _, _, _, _, _⟩) (rs_of rfl) rfl rfl rfl (rdk_take 9 rfl (by kernel_rfl) trivial (q_not rfl) rfl (rdk_endq (by kernel_rfl) (et (ev_cond_n rfl (fun h3 => ?_) (fun h3 => ?_))))))))))))))))))))
     · try have d3 := of_decide_eq_false h3
       refine sq (rg (xs rfl rfl (nl (et (ev_ret (evr_blk (evr_then (evr_then (evr_blk (evr_then (ret_pure' ttOk rfl rfl (congrArg bR (?_ : _ = _)))))))))))))
       first | rfl | (exfalso; simp_all; done) | (exfalso; omega)
     · try have d3 := of_decide_eq_true h3
       refine ev_skip (eb (et (rg (xm rfl rfl (xa rfl rfl rfl (by omega) rfl (xs rfl rfl (nl (eve_round (k + 1) [] ?hp ⟨by (repeat first | exact trivial | refine ⟨rfl, ?_⟩), by (repeat first | exact trivial | refine ⟨rfl, ?_⟩), by (repeat first | exact trivial | refine ⟨⟨_, rfl, rfl⟩, ?_⟩), by (repeat first | exact trivial | refine ⟨⟨_, rfl, rfl⟩, ?_⟩), rfl⟩))))))))
       case hp => exact ⟨by omega, by omega⟩
   · try have d2 := of_decide_eq_false h2
     refine ev_exit (evx_then (evx_then (evx_hit (et (sq (rg (xs rfl rfl (nl (et (ev_ret (ret_pure' ttOk rfl rfl (congrArg bR (?_ : _ = _)))))))))))))
     first | rfl | (exfalso; simp_all; done) | (exfalso; omega)
theorem e_book (x : Book) : Pure Tryz.prog 24 [many (bookC x), many (bookC x)] (bR true) := by
 refine pure_intro (N := 21) Tryz.func24 rfl rfl rfl rfl (fun H w => ?_)
 refine sq (rg (evl_e (e_box rfl rfl rfl rfl) (evl_e (e_box rfl rfl rfl rfl) (xs rfl rfl (nl (et (sq (sq (rg (xf ttOk rfl rfl (xl ttOk rfl rfl (xf ttOk rfl rfl (xl ttOk rfl rfl (xb ttOk rfl rfl (nl (et (ev_cond rfl (fun h1 => ?_) (fun h1 => ?_))))))))))))))))))
 · try have d1 := of_decide_eq_true h1
   refine sq (rg (xs rfl rfl (nl (et (ev_ret (evr_then (ret_pure' ttOk rfl rfl (congrArg bR (?_ : _ = _)))))))))
   first | rfl | (exfalso; simp_all; done) | (exfalso; omega)
 · try have d1 := of_decide_eq_false h1
   refine ev_skip (et (sq (sq (rg (xf ttOk rfl rfl (xl ttOk rfl rfl (xf ttOk rfl rfl (xl ttOk rfl rfl (xb ttOk rfl rfl (nl (et (ev_cond rfl (fun h2 => ?_) (fun h2 => ?_)))))))))))))
   · try have d2 := of_decide_eq_true h2
     refine sq (rg (xs rfl rfl (nl (et (ev_ret (evr_then (ret_pure' ttOk rfl rfl (congrArg bR (?_ : _ = _)))))))))
     first | rfl | (exfalso; simp_all; done) | (exfalso; omega)
   · try have d2 := of_decide_eq_false h2
     refine ev_skip (et (sq (sq (rg (xf ttOk rfl rfl (xl ttOk rfl rfl (xf ttOk rfl rfl (xl ttOk rfl rfl (evl_call (nm := 19) (cf rfl) (e_entries _) (rs_of rfl) rfl rfl rfl (xo (q_not rfl) rfl (nl (et (ev_cond_n rfl (fun h3 => ?_) (fun h3 => ?_))))))))))))))
     · try have d3 := of_decide_eq_false h3
       refine sq (rg (xs rfl rfl (nl (et (ev_ret (evr_then (ret_pure' ttOk rfl rfl (congrArg bR (?_ : _ = _)))))))))
       first | rfl | (exfalso; simp_all; done) | (exfalso; omega)
     · try have d3 := of_decide_eq_true h3
       refine ev_skip (et (sq (rg (xs rfl rfl (nl (et (ev_ret (ret_pure' ttOk rfl rfl (congrArg bR (?_ : _ = _))))))))))
       first | rfl | (exfalso; simp_all; done) | (exfalso; omega)
end Go.Proofs.YtphaggopgdbojaaGreat
namespace Go.Proofs.YtphaggopgdbojaaGreat
open Go.ChangeShapes Go.WideShapes Go.ChangeAt Go.RowKit
set_option linter.unusedVariables false
set_option linter.unusedSimpArgs false
set_option maxHeartbeats 1000000
set_option maxRecDepth 100000
attribute [local irreducible] EvL Ev EvE Quiet Eff Pure RDk RDb RDo
@[reducible] def wF (x : Int × List Int) : List C := [iC x.1, ints x.2]
@[reducible] def wH (x : Int × List Int) : List C := [iC x.1, .hole]
end Go.Proofs.YtphaggopgdbojaaGreat
namespace Go.Proofs.YtphaggopgdbojaaGreat
open Go.ChangeShapes Go.WideShapes Go.ChangeAt Go.RowKit
set_option linter.unusedVariables false
set_option linter.unusedSimpArgs false
set_option maxHeartbeats 1000000
set_option maxRecDepth 100000
attribute [local irreducible] EvL Ev EvE Quiet Eff Pure RDk RDb RDo
def noMark : Mark := ⟨0, 0, 0⟩
def findM (l : List Mark) (c : Int) : Mark := (l.find? fun m => decide (m.client = c)).getD noMark
theorem find_hit {l : List Mark} {c : Int} {k : Nat} (hk : k < l.length) (h : ∀ m ∈ l.take k, m.client ≠ c) (hc : l[k].client = c) : findM l c = l[k] := by
  have e : l.find? (fun m => decide (m.client = c)) = some l[k] := by
    conv => lhs; rw [← List.take_append_drop k l, List.drop_eq_getElem_cons hk]
    rw [List.find?_append, List.find?_eq_none.2 (by simpa using h), List.find?_cons_of_pos (by simpa using hc)]
    rfl
  simp [findM, e]
theorem find_no {l : List Mark} {c : Int} {k : Nat} (hk : ¬ k < l.length) (h : ∀ m ∈ l.take k, m.client ≠ c) : findM l c = noMark := by
  rw [List.take_of_length_le (by omega)] at h
  have e : l.find? (fun m => decide (m.client = c)) = none := List.find?_eq_none.2 (by simpa using h)
  simp [findM, e]
theorem c_MarkOf (l : List Mark) (c : Int) : Pure Tryz.prog 165 [one (marks l), one (iC c)] [many' [.v (.int .i64 (if seenOk l then findM l c else noMark).client), .v (.int .i64 (if seenOk l then findM l c else noMark).seq), .v (.int .i64 (if seenOk l then findM l c else noMark).index)]] := by
 refine pure_intro (N := 28) Tryz.func165 rfl rfl rfl rfl (fun H w => ?_)
 refine ev_lenm (t := 0) rfl (fun hL => ?_)
 refine sq (rg (evl_e (e_alloc ttOk rfl rfl rfl rfl) (nl (et (sq (sq (rg (xm rfl rfl (evl_call (nm := 7) (cf rfl) (c_SeenOk l) (rs_of rfl) rfl rfl rfl (xo (q_not rfl) rfl (nl (et (ev_cond_n rfl (fun h1 => ?_) (fun h1 => ?_))))))))))))))
 · try have d1 := of_decide_eq_false h1
   refine sq (rg (xo (q_build ttOk rfl) rfl (xst ttOk rfl rfl (nl (et (ev_ret (evr_then (ret_pure' ttOk rfl rfl ?_))))))))
   first
   | (rw [show seenOk l = false by assumption]; rfl)
   | (rw [show seenOk l = true by assumption, if_pos rfl, find_hit (k := k) (by omega) p1 (by assumption)]; done)
   | (rw [show seenOk l = true by assumption, if_pos rfl, find_no (k := k) (by omega) p1]; rfl)
 · try have d1 := of_decide_eq_true h1
   refine ev_skip (et (sq (sq (rg (xs rfl rfl (nl (et (ev_blk (ev_loop (fun k : Nat => (⟨[(5, iV k), (0, cV (marks l)), (1, iV c), (4, pbV 4 0)], [(4, 148, [.c (iC 0), .c (iC 0), .c (iC 0)])], [], []⟩ : St)) (fun k => k ≤ l.length ∧ ∀ m ∈ l.take k, m.client ≠ c) (fun k => l.length - k) 0 [] (⟨by simp, by simp⟩) ⟨by (repeat first | exact trivial | refine ⟨rfl, ?_⟩), by (repeat first | exact trivial | refine ⟨rfl, ?_⟩), by (repeat first | exact trivial | refine ⟨⟨_, rfl, rfl⟩, ?_⟩), by (repeat first | exact trivial | refine ⟨⟨_, rfl, rfl⟩, ?_⟩), rfl⟩ ?_)))))))))
   intro k hp
   obtain ⟨p0, p1⟩ := hp
   show Ev _ _ _ _ (⟨[(5, iV k), (0, cV (marks l)), (1, iV c), (4, pbV 4 0)], [(4, 148, [.c (iC 0), .c (iC 0), .c (iC 0)])], [], []⟩ : St)
   refine sq (sq (rg (xm rfl rfl (xm rfl rfl (xo (q_len_map ttOk rfl rfl) rfl (xb ttOk rfl rfl (nl (et (ev_cond rfl (fun h2 => ?_) (fun h2 => ?_))))))))))
   · try have d2 := of_decide_eq_true h2
     refine ev_skip (et (sq (ev_blk (sq (rg (xm rfl rfl (xm rfl rfl (xo (q_ix_map ttOk rfl rfl rfl rfl (by omega)) rfl (xf ttOk rfl rfl (xl ttOk rfl rfl (xm rfl rfl (xb ttOk rfl rfl (nl (et (ev_cond rfl (fun h3 => ?_) (fun h3 => ?_))))))))))))))))
     · try have d3 := of_decide_eq_true h3
       refine sq (rg (xm rfl rfl (xm rfl rfl (xo (q_ix_map ttOk rfl rfl rfl rfl (by omega)) rfl (xl ttOk rfl rfl (xst ttOk rfl rfl (nl (et (ev_ret (evr_blk (evr_then (evr_then (evr_blk (evr_then (ret_pure' ttOk rfl rfl ?_)))))))))))))))
       first
       | (rw [show seenOk l = false by assumption]; rfl)
       | (rw [show seenOk l = true by assumption, if_pos rfl, find_hit (k := k) (by omega) p1 (by assumption)]; done)
       | (rw [show seenOk l = true by assumption, if_pos rfl, find_no (k := k) (by omega) p1]; rfl)
     · try have d3 := of_decide_eq_false h3
       refine ev_skip (eb (et (rg (xm rfl rfl (xa rfl rfl rfl (by omega) rfl (xs rfl rfl (nl (eve_round (k + 1) [] ?hp ⟨by (repeat first | exact trivial | refine ⟨rfl, ?_⟩), by (repeat first | exact trivial | refine ⟨rfl, ?_⟩), by (repeat first | exact trivial | refine ⟨⟨_, rfl, rfl⟩, ?_⟩), by (repeat first | exact trivial | refine ⟨⟨_, rfl, rfl⟩, ?_⟩), rfl⟩))))))))
       case hp => exact ⟨⟨by omega, all_takeP (by omega) p1 (by assumption)⟩, by omega⟩
   · try have d2 := of_decide_eq_false h2
     refine ev_exit (evx_then (evx_then (evx_hit (et (sq (rg (xo (q_build ttOk rfl) rfl (xst ttOk rfl rfl (nl (et (ev_ret (ret_pure' ttOk rfl rfl ?_))))))))))))
     first
     | (rw [show seenOk l = false by assumption]; rfl)
     | (rw [show seenOk l = true by assumption, if_pos rfl, find_hit (k := k) (by omega) p1 (by assumption)]; done)
     | (rw [show seenOk l = true by assumption, if_pos rfl, find_no (k := k) (by omega) p1]; rfl)
theorem c_MarkOf2 (l : List Mark) (c : Int) (h : seenOk l = true) : Pure Tryz.prog 165 [one (marks l), one (iC c)] [many' [.v (.int .i64 (findM l c).client), .v (.int .i64 (findM l c).seq), .v (.int .i64 (findM l c).index)]] := by
  have := c_MarkOf l c
  rw [h] at this
  exact this
end Go.Proofs.YtphaggopgdbojaaGreat
namespace Go.Proofs.YtphaggopgdbojaaGreat
open Go.ChangeShapes Go.WideShapes Go.ChangeAt Go.RowKit
set_option linter.unusedVariables false
set_option linter.unusedSimpArgs false
set_option maxHeartbeats 1000000
set_option maxRecDepth 100000
attribute [local irreducible] EvL Ev EvE Quiet Eff Pure RDk RDb RDo
def q2 (q : Int) (n : LogN) : Int := q + mkN n.two.a + mkN n.two.b
def q3 (q : Int) (n : LogN) : Int := q2 q n + (3 * n.head.seen.length : Nat)
def q4 (q : Int) (n : LogN) : Int := q3 q n + (3 * n.next.seen.length : Nat)
def q5 (q : Int) (n : LogN) : Int := q4 q n + (9 * n.book.entries.length : Nat)
def q6 (q : Int) (n : LogN) : Int := q5 q n + (3 * n.seen.length : Nat)
def q7 (q : Int) (n : LogN) : Int := q6 q n + (4 * n.owe.length : Nat)
theorem m_book (ty : Nat) (x : Book) (q : Int) (h : 0 ≤ q ∧ q + (9 * x.entries.length : Nat) ≤ 1099511627776) : Marks Tryz.prog 29 (true, [.v (.int .i64 x.base), .v (.int .i64 x.time), .s ty 9 (x.entries.map entryC)]) (true, [.v (.int .i64 x.base), .v (.int .i64 x.time), .s ty 9 (mk9 q x.entries.length)]) q (q + (9 * x.entries.length : Nat)) := by
 refine marks_intro (N := 10) Tryz.func29 rfl rfl rfl rfl (fun w v F => ?_)
 refine sq (rg (evl_e (e_box rfl rfl rfl rfl) (xs rfl rfl (nl (et (sq (rg (xf ttOk rfl rfl (xl ttOk rfl rfl (xm rfl rfl (evl_mark (cf rfl) rfl rfl rfl (m_entries _ _ _ (by omega)) rfl rfl rfl (xs rfl rfl (nl (et (sq (rg (xm rfl rfl (xs rfl rfl (nl (et (ev_ret (ret_mark ttOk rfl rfl rfl ?_))))))))))))))))))))))
 exact ⟨rfl, by omega⟩
theorem h_book (m : Nat) (x1 x2 q q2 : Int) (hq : q2 = q) (h : 0 ≤ q ∧ q + (9 * m : Nat) ≤ 2199023255552) : Pure Tryz.prog 30 [many [iC x1, iC x2, .s 9 (mk9 q m)], one (iC q2)] (iR (q + (9 * m : Nat))) := by
 refine pure_intro (N := 12) Tryz.func30 rfl rfl rfl rfl (fun H w => ?_)
 refine sq (rg (evl_e (e_box rfl rfl rfl rfl) (xs rfl rfl (nl (et (sq (rg (xf ttOk rfl rfl (xl ttOk rfl rfl (xm rfl rfl (evl_call (nm := 8) (cf rfl) (h_entries _ _ _ (by omega) (by omega)) (rs_of rfl) rfl rfl rfl (xs rfl rfl (nl (et (sq (sq (rg (xm rfl rfl (xb ttOk rfl rfl (nl (et (ev_cond rfl (fun h1 => ?_) (fun h1 => ?_)))))))))))))))))))))))
 · have d1 := of_decide_eq_true h1
   refine sq (rg (xs rfl rfl (nl (et (ev_ret (evr_then (ret_pure' ttOk rfl rfl (congrArg iR (?_ : _ = _)))))))))
   first | omega | rfl
 · have d1 := of_decide_eq_false h1
   refine ev_skip (et (sq (rg (xm rfl rfl (xs rfl rfl (nl (et (ev_ret (ret_pure' ttOk rfl rfl (congrArg iR (?_ : _ = _)))))))))))
   first | omega | rfl
end Go.Proofs.YtphaggopgdbojaaGreat
