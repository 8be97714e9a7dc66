/- Walks of functions of the program, printed by a program of the prover. -/
import Derived.Test.YtphaggopgdbojaaGreatReF18
import Derived.Test.YtphaggopgdbojaaGreatReVG
import Derived.Test.YtphaggopgdbojaaGreatReVP
namespace Go.Proofs.YtphaggopgdbojaaGreat
open Go.ChangeShapes Go.WideShapes Go.ChangeAt Go.RowKit
set_option linter.unusedVariables false
set_option linter.unusedSimpArgs false
set_option maxHeartbeats 1000000
set_option maxRecDepth 100000
attribute [local irreducible] EvL Ev EvE Quiet Eff Pure RDk RDb RDo
structure Book where
  base : Int
  time : Int
  entries : List Entry
structure LogN where
  two : Two
  head : Head
  next : Head
  more : Bool
  book : Book
  seen : List Mark
  durable : Int
  owe : List Ack
@[reducible] def bookC (x : Book) : List C := [iC x.base, iC x.time, entries x.entries]
@[reducible] def logC (n : LogN) : List C := [rows n.two.a.kept, writes n.two.a.wait, rows n.two.b.kept, writes n.two.b.wait, iC n.head.num, iC n.head.base, iC n.head.time, marks n.head.seen, iC n.next.num, iC n.next.base, iC n.next.time, marks n.next.seen, bC n.more, iC n.book.base, iC n.book.time, entries n.book.entries, marks n.seen, iC n.durable, acks n.owe]
@[reducible] def entriesR (l : List Entry) : RC := .s 100 9 (l.map entryC)
@[reducible] def acksR (l : List Ack) : RC := .s 139 4 (l.map ackC)
@[reducible] def bookR (x : Book) : List RC := [.v (.int .i64 x.base), .v (.int .i64 x.time), entriesR x.entries]
@[reducible] def logR (n : LogN) : List RC := [rowsR n.two.a.kept, writesR n.two.a.wait, rowsR n.two.b.kept, writesR n.two.b.wait, .v (.int .i64 n.head.num), .v (.int .i64 n.head.base), .v (.int .i64 n.head.time), marksR n.head.seen, .v (.int .i64 n.next.num), .v (.int .i64 n.next.base), .v (.int .i64 n.next.time), marksR n.next.seen, .v (.bool n.more),
  .v (.int .i64 n.book.base), .v (.int .i64 n.book.time), entriesR n.book.entries, marksR n.seen, .v (.int .i64 n.durable), acksR n.owe]
theorem e_op (k x1 x2 x3 x4 : Int) : Pure Tryz.prog 211 [many ([iC k, iC x1, iC x2, iC x3, iC x4]), many ([iC k, iC x1, iC x2, iC x3, iC x4])] (bR true) := by
 refine pure_intro (N := 30) Tryz.func211 rfl rfl rfl rfl (fun H w => ?_)
 refine sq (rg (evl_e (e_box rfl rfl rfl rfl) (evl_e (e_box rfl rfl rfl rfl) (xs rfl rfl (nl (et (sq (sq (rg (xf ttOk rfl rfl (xl ttOk rfl rfl (xf ttOk rfl rfl (xl ttOk rfl rfl (xb ttOk rfl rfl (nl (et (ev_cond rfl (fun h1 => ?_) (fun h1 => ?_))))))))))))))))))
 · try have d1 := of_decide_eq_true h1
   refine sq (rg (xs rfl rfl (nl (et (ev_ret (evr_then (ret_pure' ttOk rfl rfl (congrArg bR (?_ : _ = _)))))))))
   first | rfl | (exfalso; simp_all; done) | (exfalso; omega)
 · try have d1 := of_decide_eq_false h1
   refine ev_skip (et (sq (sq (rg (xf ttOk rfl rfl (xl ttOk rfl rfl (xf ttOk rfl rfl (xl ttOk rfl rfl (xb ttOk rfl rfl (nl (et (ev_cond rfl (fun h2 => ?_) (fun h2 => ?_)))))))))))))
   · try have d2 := of_decide_eq_true h2
     refine sq (rg (xs rfl rfl (nl (et (ev_ret (evr_then (ret_pure' ttOk rfl rfl (congrArg bR (?_ : _ = _)))))))))
     first | rfl | (exfalso; simp_all; done) | (exfalso; omega)
   · try have d2 := of_decide_eq_false h2
     refine ev_skip (et (sq (sq (rg (xf ttOk rfl rfl (xl ttOk rfl rfl (xf ttOk rfl rfl (xl ttOk rfl rfl (xb ttOk rfl rfl (nl (et (ev_cond rfl (fun h3 => ?_) (fun h3 => ?_)))))))))))))
     · try have d3 := of_decide_eq_true h3
       refine sq (rg (xs rfl rfl (nl (et (ev_ret (evr_then (ret_pure' ttOk rfl rfl (congrArg bR (?_ : _ = _)))))))))
       first | rfl | (exfalso; simp_all; done) | (exfalso; omega)
     · try have d3 := of_decide_eq_false h3
       refine ev_skip (et (sq (sq (rg (xf ttOk rfl rfl (xl ttOk rfl rfl (xf ttOk rfl rfl (xl ttOk rfl rfl (xb ttOk rfl rfl (nl (et (ev_cond rfl (fun h4 => ?_) (fun h4 => ?_)))))))))))))
       · try have d4 := of_decide_eq_true h4
         refine sq (rg (xs rfl rfl (nl (et (ev_ret (evr_then (ret_pure' ttOk rfl rfl (congrArg bR (?_ : _ = _)))))))))
         first | rfl | (exfalso; simp_all; done) | (exfalso; omega)
       · try have d4 := of_decide_eq_false h4
         refine ev_skip (et (sq (sq (rg (xf ttOk rfl rfl (xl ttOk rfl rfl (xf ttOk rfl rfl (xl ttOk rfl rfl (xb ttOk rfl rfl (nl (et (ev_cond rfl (fun h5 => ?_) (fun h5 => ?_)))))))))))))
         · try have d5 := of_decide_eq_true h5
           refine ev_pr [4] rfl (sq (rg (xs rfl rfl (nl (et (ev_ret (evr_then (ret_pure' ttOk rfl rfl (congrArg bR (?_ : _ = _))))))))))
           first | rfl | (exfalso; simp_all; done) | (exfalso; omega)
         · try have d5 := of_decide_eq_false h5
           refine ev_skip (et (ev_pr [4] rfl (sq (rg (xs rfl rfl (nl (et (ev_ret (ret_pure' ttOk rfl rfl (congrArg bR (?_ : _ = _)))))))))))
           first | rfl | (exfalso; simp_all; done) | (exfalso; omega)
theorem e_entry (e : Entry) : Pure Tryz.prog 153 [many (entryC e), many (entryC e)] (bR true) := by
 refine pure_intro (N := 31) Tryz.func153 rfl rfl rfl rfl (fun H w => ?_)
 refine sq (rg (evl_e (e_box rfl rfl rfl rfl) (evl_e (e_box rfl rfl rfl rfl) (xs rfl rfl (nl (et (sq (sq (rg (xf ttOk rfl rfl (xl ttOk rfl rfl (xf ttOk rfl rfl (xl ttOk rfl rfl (xb ttOk rfl rfl (nl (et (ev_cond rfl (fun h1 => ?_) (fun h1 => ?_))))))))))))))))))
 · try have d1 := of_decide_eq_true h1
   refine sq (rg (xs rfl rfl (nl (et (ev_ret (evr_then (ret_pure' ttOk rfl rfl (congrArg bR (?_ : _ = _)))))))))
   first | rfl | (exfalso; simp_all; done) | (exfalso; omega)
 · try have d1 := of_decide_eq_false h1
   refine ev_skip (et (sq (sq (rg (xf ttOk rfl rfl (xl ttOk rfl rfl (xf ttOk rfl rfl (xl ttOk rfl rfl (xb ttOk rfl rfl (nl (et (ev_cond rfl (fun h2 => ?_) (fun h2 => ?_)))))))))))))
   · try have d2 := of_decide_eq_true h2
     refine sq (rg (xs rfl rfl (nl (et (ev_ret (evr_then (ret_pure' ttOk rfl rfl (congrArg bR (?_ : _ = _)))))))))
     first | rfl | (exfalso; simp_all; done) | (exfalso; omega)
   · try have d2 := of_decide_eq_false h2
     refine ev_skip (et (sq (sq (rg (xf ttOk rfl rfl (xl ttOk rfl rfl (xf ttOk rfl rfl (xl ttOk rfl rfl (xb ttOk rfl rfl (nl (et (ev_cond rfl (fun h3 => ?_) (fun h3 => ?_)))))))))))))
     · try have d3 := of_decide_eq_true h3
       refine sq (rg (xs rfl rfl (nl (et (ev_ret (evr_then (ret_pure' ttOk rfl rfl (congrArg bR (?_ : _ = _)))))))))
       first | rfl | (exfalso; simp_all; done) | (exfalso; omega)
     · try have d3 := of_decide_eq_false h3
       refine ev_skip (et (sq (sq (rg (xf ttOk rfl rfl (xl ttOk rfl rfl (xf ttOk rfl rfl (xl ttOk rfl rfl (xb ttOk rfl rfl (nl (et (ev_cond rfl (fun h4 => ?_) (fun h4 => ?_)))))))))))))
       · try have d4 := of_decide_eq_true h4
         refine sq (rg (xs rfl rfl (nl (et (ev_ret (evr_then (ret_pure' ttOk rfl rfl (congrArg bR (?_ : _ = _)))))))))
         first | rfl | (exfalso; simp_all; done) | (exfalso; omega)
       · try have d4 := of_decide_eq_false h4
         refine ev_skip (et (sq (sq (rg (xf ttOk rfl rfl (xl ttOk rfl rfl (xf ttOk rfl rfl (xl ttOk rfl rfl (evl_call (nm := 29) (cf rfl) (e_op _ _ _ _ _) (rs_of rfl) rfl rfl rfl (xo (q_not rfl) rfl (nl (et (ev_cond_n rfl (fun h5 => ?_) (fun h5 => ?_))))))))))))))
         · try have d5 := of_decide_eq_false h5
           refine ev_pr [4] rfl (sq (rg (xs rfl rfl (nl (et (ev_ret (evr_then (ret_pure' ttOk rfl rfl (congrArg bR (?_ : _ = _))))))))))
           first | rfl | (exfalso; simp_all; done) | (exfalso; omega)
         · try have d5 := of_decide_eq_true h5
           refine ev_skip (et (ev_pr [4] rfl (sq (rg (xs rfl rfl (nl (et (ev_ret (ret_pure' ttOk rfl rfl (congrArg bR (?_ : _ = _)))))))))))
           first | rfl | (exfalso; simp_all; done) | (exfalso; omega)
theorem e_entries (l : List Entry) : Pure Tryz.prog 84 [one (entries l), one (entries l)] (bR true) := by
 refine pure_intro (N := 27) Tryz.func84 rfl rfl rfl rfl (fun H w => ?_)
 refine ev_lenm (t := 0) rfl (fun hL => ?_)
 refine ev_lenm (t := 1) rfl (fun hM => ?_)
 refine sq (rg (xs rfl rfl (nl (et (sq (sq (rg (xm rfl rfl (xo (q_len_map ttOk rfl rfl) rfl (xm rfl rfl (xo (q_len_map ttOk rfl rfl) rfl (xb ttOk rfl rfl (nl (et (ev_cond rfl (fun h1 => ?_) (fun h1 => ?_))))))))))))))))
 · try have d1 := of_decide_eq_true h1
   refine sq (rg (xs rfl rfl (nl (et (ev_ret (evr_then (ret_pure' ttOk rfl rfl (congrArg bR (?_ : _ = _)))))))))
   first | rfl | (exfalso; simp_all; done) | (exfalso; omega)
 · try have d1 := of_decide_eq_false h1
   refine ev_skip (et (sq (sq (rg (xs rfl rfl (nl (et (ev_blk (ev_loop (fun k : Nat => (⟨[(5, iV k), (0, cV (entries l)), (1, cV (entries l))], [], [], []⟩ : St)) (fun k => k ≤ l.length) (fun k => l.length - k) 0 [] (by simp) ⟨by (repeat first | exact trivial | refine ⟨rfl, ?_⟩), by (repeat first | exact trivial | refine ⟨rfl, ?_⟩), by (repeat first | exact trivial | refine ⟨⟨_, rfl, rfl⟩, ?_⟩), by (repeat first | exact trivial | refine ⟨⟨_, rfl, rfl⟩, ?_⟩), rfl⟩ ?_)))))))))
   intro k hp
   have p0 := hp
   show Ev _ _ _ _ (⟨[(5, iV k), (0, cV (entries l)), (1, cV (entries l))], [], [], []⟩ : St)
   refine sq (sq (rg (xm rfl rfl (xm rfl rfl (xo (q_len_map ttOk rfl rfl) rfl (xb ttOk rfl rfl (nl (et (ev_cond rfl (fun h2 => ?_) (fun h2 => ?_))))))))))
   · try have d2 := of_decide_eq_true h2
     refine ev_skip (et (sq (ev_blk (sq (ev_drawq [] mo (rdk_take 0 rfl (by kernel_rfl) trivial (q_move rfl) rfl (rdk_take 1 rfl (by kernel_rfl) trivial (q_move rfl) rfl (rdk_take 2 rfl (by kernel_rfl) trivial (q_ix_map ttOk rfl rfl rfl rfl (by omega)) rfl (rdk_take 3 rfl (by kernel_rfl) trivial (q_load ttOk rfl) rfl (rdk_take 4 rfl (by kernel_rfl) trivial (q_move rfl) rfl (rdk_take 5 rfl (by kernel_rfl) trivial (q_move rfl) rfl (rdk_take 6 rfl (by kernel_rfl) trivial (q_ix_map ttOk rfl rfl rfl rfl (by omega)) rfl (rdk_take 7 rfl (by kernel_rfl) trivial (q_load ttOk rfl) rfl (rdk_one 8 (by kernel_rfl) (rdo_call (nm := 25) rfl trivial (cf rfl) (e_entry ⟨_, _, _, _, _, _, _, _, _⟩) (rs_of rfl) rfl rfl rfl (rdk_take 9 rfl (by kernel_rfl) trivial (q_not rfl) rfl (rdk_endq (by kernel_rfl) (et (ev_cond_n rfl (fun h3 => ?_) (fun h3 => ?_))))))))))))))))))))
     · try have d3 := of_decide_eq_false h3
       refine sq (rg (xs rfl rfl (nl (et (ev_ret (evr_blk (evr_then (evr_then (evr_blk (evr_then (ret_pure' ttOk rfl rfl (congrArg bR (?_ : _ = _)))))))))))))
       first | rfl | (exfalso; simp_all; done) | (exfalso; omega)
     · try have d3 := of_decide_eq_true h3
       refine ev_skip (eb (et (rg (xm rfl rfl (xa rfl rfl rfl (by omega) rfl (xs rfl rfl (nl (eve_round (k + 1) [] ?hp ⟨by (repeat first | exact trivial | refine ⟨rfl, ?_⟩), by (repeat first | exact trivial | refine ⟨rfl, ?_⟩), by (repeat first | exact trivial | refine ⟨⟨_, rfl, rfl⟩, ?_⟩), by (repeat first | exact trivial | refine ⟨⟨_, rfl, rfl⟩, ?_⟩), rfl⟩))))))))
       case hp => exact ⟨by omega, by omega⟩
   · try have d2 := of_decide_eq_false h2
     refine ev_exit (evx_then (evx_then (evx_hit (et (sq (rg (xs rfl rfl (nl (et (ev_ret (ret_pure' ttOk rfl rfl (congrArg bR (?_ : _ = _)))))))))))))
     first | rfl | (exfalso; simp_all; done) | (exfalso; omega)
theorem e_book (x : Book) : Pure Tryz.prog 24 [many (bookC x), many (bookC x)] (bR true) := by
 refine pure_intro (N := 21) Tryz.func24 rfl rfl rfl rfl (fun H w => ?_)
 refine sq (rg (evl_e (e_box rfl rfl rfl rfl) (evl_e (e_box rfl rfl rfl rfl) (xs rfl rfl (nl (et (sq (sq (rg (xf ttOk rfl rfl (xl ttOk rfl rfl (xf ttOk rfl rfl (xl ttOk rfl rfl (xb ttOk rfl rfl (nl (et (ev_cond rfl (fun h1 => ?_) (fun h1 => ?_))))))))))))))))))
 · try have d1 := of_decide_eq_true h1
   refine sq (rg (xs rfl rfl (nl (et (ev_ret (evr_then (ret_pure' ttOk rfl rfl (congrArg bR (?_ : _ = _)))))))))
   first | rfl | (exfalso; simp_all; done) | (exfalso; omega)
 · try have d1 := of_decide_eq_false h1
   refine ev_skip (et (sq (sq (rg (xf ttOk rfl rfl (xl ttOk rfl rfl (xf ttOk rfl rfl (xl ttOk rfl rfl (xb ttOk rfl rfl (nl (et (ev_cond rfl (fun h2 => ?_) (fun h2 => ?_)))))))))))))
   · try have d2 := of_decide_eq_true h2
     refine sq (rg (xs rfl rfl (nl (et (ev_ret (evr_then (ret_pure' ttOk rfl rfl (congrArg bR (?_ : _ = _)))))))))
     first | rfl | (exfalso; simp_all; done) | (exfalso; omega)
   · try have d2 := of_decide_eq_false h2
     refine ev_skip (et (sq (sq (rg (xf ttOk rfl rfl (xl ttOk rfl rfl (xf ttOk rfl rfl (xl ttOk rfl rfl (evl_call (nm := 19) (cf rfl) (e_entries _) (rs_of rfl) rfl rfl rfl (xo (q_not rfl) rfl (nl (et (ev_cond_n rfl (fun h3 => ?_) (fun h3 => ?_))))))))))))))
     · try have d3 := of_decide_eq_false h3
       refine sq (rg (xs rfl rfl (nl (et (ev_ret (evr_then (ret_pure' ttOk rfl rfl (congrArg bR (?_ : _ = _)))))))))
       first | rfl | (exfalso; simp_all; done) | (exfalso; omega)
     · try have d3 := of_decide_eq_true h3
       refine ev_skip (et (sq (rg (xs rfl rfl (nl (et (ev_ret (ret_pure' ttOk rfl rfl (congrArg bR (?_ : _ = _))))))))))
       first | rfl | (exfalso; simp_all; done) | (exfalso; omega)
end Go.Proofs.YtphaggopgdbojaaGreat
namespace Go.Proofs.YtphaggopgdbojaaGreat
open Go.ChangeShapes Go.WideShapes Go.ChangeAt Go.RowKit
set_option linter.unusedVariables false
set_option linter.unusedSimpArgs false
set_option maxHeartbeats 1000000
set_option maxRecDepth 100000
attribute [local irreducible] EvL Ev EvE Quiet Eff Pure RDk RDb RDo
def zeroD : Disk := ⟨[], []⟩
def zeroT : Two := ⟨zeroD, zeroD⟩
def wroteOk (d : Disk) (x : Int) (row : List Int) : Bool := hasAt d x && (rowOk row && decide (d.wait.length < 60))
theorem wroteOk1 {d : Disk} {x : Int} {row : List Int} (h : hasAt d x = false) : wroteOk d x row = false := by simp [wroteOk, h]
theorem wroteOk2 {d : Disk} {x : Int} {row : List Int} (h : rowOk row = false) : wroteOk d x row = false := by simp [wroteOk, h]
theorem wroteOk3 {d : Disk} {x : Int} {row : List Int} (h : 60 ≤ d.wait.length) : wroteOk d x row = false := by
  have : ¬ d.wait.length < 60 := by omega
  simp [wroteOk, this]
def wroteF (d : Disk) (x : Int) (row : List Int) : Disk × Bool := if diskOk d then if wroteOk d x row then (⟨d.kept, d.wait ++ [(x, row)]⟩, true) else (d, false) else (zeroD, false)
theorem wrote_no {d : Disk} {x : Int} {row : List Int} (h : diskOk d = false) : wroteF d x row = (zeroD, false) := by simp [wroteF, h]
theorem wrote_fail {d : Disk} {x : Int} {row : List Int} (h : diskOk d = true) (h2 : wroteOk d x row = false) : wroteF d x row = (d, false) := by simp [wroteF, h, h2]
theorem wrote_yes {d : Disk} {x : Int} {row : List Int} (h : diskOk d = true) (h2 : wroteOk d x row = true) : wroteF d x row = (⟨d.kept, d.wait ++ [(x, row)]⟩, true) := by simp [wroteF, h, h2]
def bothWroteF (t : Two) (x : Int) (row : List Int) : Two × Bool := if twoOk t then if canSum row && ((wroteF t.a x (withSumF row)).2 && (wroteF t.b x (withSumF row)).2) then (⟨(wroteF t.a x (withSumF row)).1, (wroteF t.b x (withSumF row)).1⟩, true) else (t, false) else (zeroT, false)
theorem both_no {t : Two} {x : Int} {row : List Int} (h : twoOk t = false) : bothWroteF t x row = (zeroT, false) := by simp [bothWroteF, h]
theorem both_fail {t : Two} {x : Int} {row : List Int} (h : twoOk t = true) (h2 : (canSum row && ((wroteF t.a x (withSumF row)).2 && (wroteF t.b x (withSumF row)).2)) = false) : bothWroteF t x row = (t, false) := by simp only [bothWroteF, h, h2]; rfl
theorem both_yes {t : Two} {x : Int} {row : List Int} (h : twoOk t = true) (h1 : canSum row = true) (h2 : (wroteF t.a x (withSumF row)).2 = true) (h3 : (wroteF t.b x (withSumF row)).2 = true) : bothWroteF t x row = (⟨(wroteF t.a x (withSumF row)).1, (wroteF t.b x (withSumF row)).1⟩, true) := by simp [bothWroteF, h, h1, h2, h3]
theorem withSum_len {l : List Int} : (withSumF l).length ≤ 48 ∧ ((withSumF l).length = 0 ↔ canSum l = false) := by
  unfold withSumF
  split
  · rename_i h
    have := h
    simp only [canSum, Bool.and_eq_true, decide_eq_true_eq] at this
    exact ⟨by simp; omega, by simp [h]⟩
  · rename_i h
    exact ⟨by simp, by simp [h]⟩
theorem c_Wrote (d : Disk) (x : Int) (row : List Int) : Pure Tryz.prog 180 [many (diskC d), one (iC x), one (ints row)] [many' (diskR ((wroteF d x row).1)), one' (RC.v (.bool ((wroteF d x row).2)))] := by
 refine pure_intro (N := 41) Tryz.func180 rfl rfl rfl rfl (fun H w => ?_)
 refine sq (rg (evl_e (e_box rfl rfl rfl rfl) (evl_e (e_alloc ttOk rfl rfl rfl rfl) (xs rfl rfl (nl (et (sq (sq (rg (xl ttOk rfl rfl (evl_call (nm := 10) (cf rfl) (c_DiskOk d) (rs_of rfl) rfl rfl rfl (xo (q_not rfl) rfl (nl (et (ev_cond_n rfl (fun h1 => ?_) (fun h1 => ?_))))))))))))))))
 · try have d1 := of_decide_eq_false h1
   refine sq (rg (xo (q_build ttOk rfl) rfl (xst ttOk rfl rfl (xs rfl rfl (nl (et (ev_ret (evr_then (ret_pureN ttOk rfl rfl ?_)))))))))
   first
   | (rw [wrote_no (by assumption)]; simp [RpLe, L2, RcLe, zeroD]; done)
   | (rw [wrote_fail (by assumption) (wroteOk1 (by assumption))]; simp [RpLe, L2, RcLe]; done)
   | (rw [wrote_fail (by assumption) (wroteOk2 (by assumption))]; simp [RpLe, L2, RcLe]; done)
   | (rw [wrote_fail (by assumption) (wroteOk3 (by omega))]; simp [RpLe, L2, RcLe]; done)
   | (rw [wrote_yes (by assumption) (by simp only [wroteOk, Bool.and_eq_true, decide_eq_true_eq]; exact ⟨by assumption, by assumption, by omega⟩)]; simp [RpLe, L2, RcLe]; done)
 · try have d1 := of_decide_eq_true h1
   have hs := diskOk_sizes h1
   refine ev_skip (et (sq (rg (xl ttOk rfl rfl (evl_call (nm := 14) (cf rfl) (c_l3Copy d (by assumption)) (rs_of rfl) rfl rfl rfl (evl_e (e_alloc ttOk rfl rfl rfl rfl) (xst ttOk rfl rfl (nl (et (sq (sq (rg (xl ttOk rfl rfl (xm rfl rfl (evl_call (nm := 17) (cf rfl) (c_l3Has d _) (rs_of rfl) rfl rfl rfl (xo (q_not rfl) rfl (xm rfl rfl (evl_partn rfl rfl (fun h2 => ?_) (fun h2 => ?_)))))))))))))))))))
   · try have d2 := of_decide_eq_false h2
     refine gn (nt h2) rfl rfl rfl (gn (nt h2) rfl rfl rfl (gn (nt h2) rfl rfl rfl (xo (q_pick_t rfl (nt h2) rfl) rfl (xm rfl rfl (gn rfl rfl rfl rfl (gn rfl rfl rfl rfl (gn rfl rfl rfl rfl (gn rfl rfl rfl rfl (xo (q_pick_t rfl rfl rfl) rfl (nl (et (ev_cond_kt rfl rfl (sq (rg (xl ttOk rfl rfl (xst ttOk rfl rfl (xs rfl rfl (nl (et (ev_ret (evr_then (ret_pureN ttOk rfl rfl ?_))))))))))))))))))))))
     first
     | (rw [wrote_no (by assumption)]; simp [RpLe, L2, RcLe, zeroD]; done)
     | (rw [wrote_fail (by assumption) (wroteOk1 (by assumption))]; simp [RpLe, L2, RcLe]; done)
     | (rw [wrote_fail (by assumption) (wroteOk2 (by assumption))]; simp [RpLe, L2, RcLe]; done)
     | (rw [wrote_fail (by assumption) (wroteOk3 (by omega))]; simp [RpLe, L2, RcLe]; done)
     | (rw [wrote_yes (by assumption) (by simp only [wroteOk, Bool.and_eq_true, decide_eq_true_eq]; exact ⟨by assumption, by assumption, by omega⟩)]; simp [RpLe, L2, RcLe]; done)
   · try have d2 := of_decide_eq_true h2
     refine gm (nf h2) rfl rfl rfl rfl (evl_callg rfl rfl (nf h2) (nm := 21) (cf rfl) (c_RowOk _) (rs_of rfl) rfl rfl rfl (go (nf h2) rfl rfl (q_not rfl) rfl (xo (q_pick_f rfl (nf h2) rfl) rfl (xm rfl rfl (evl_partn rfl rfl (fun h3 => ?_) (fun h3 => ?_))))))
     · try have d3 := of_decide_eq_false h3
       refine gn (nt h3) rfl rfl rfl (gn (nt h3) rfl rfl rfl (gn (nt h3) rfl rfl rfl (gn (nt h3) rfl rfl rfl (xo (q_pick_t rfl (nt h3) rfl) rfl (nl (et (ev_cond_kt rfl rfl (sq (rg (xl ttOk rfl rfl (xst ttOk rfl rfl (xs rfl rfl (nl (et (ev_ret (evr_then (ret_pureN ttOk rfl rfl ?_)))))))))))))))))
       first
       | (rw [wrote_no (by assumption)]; simp [RpLe, L2, RcLe, zeroD]; done)
       | (rw [wrote_fail (by assumption) (wroteOk1 (by assumption))]; simp [RpLe, L2, RcLe]; done)
       | (rw [wrote_fail (by assumption) (wroteOk2 (by assumption))]; simp [RpLe, L2, RcLe]; done)
       | (rw [wrote_fail (by assumption) (wroteOk3 (by omega))]; simp [RpLe, L2, RcLe]; done)
       | (rw [wrote_yes (by assumption) (by simp only [wroteOk, Bool.and_eq_true, decide_eq_true_eq]; exact ⟨by assumption, by assumption, by omega⟩)]; simp [RpLe, L2, RcLe]; done)
     · try have d3 := of_decide_eq_true h3
       have hr := (rowOk_nums h3).1
       refine go (nf h3) rfl rfl (q_fieldAddr ttOk rfl) rfl (go (nf h3) rfl rfl (q_load ttOk rfl) rfl (go (nf h3) rfl rfl (q_len_map ttOk rfl rfl) rfl (go (nf h3) rfl rfl (q_bin ttOk rfl) rfl (xo (q_pick_f rfl (nf h3) rfl) rfl (nl (et (ev_cond rfl (fun h4 => ?_) (fun h4 => ?_))))))))
       · try have d4 := of_decide_eq_true h4
         refine sq (rg (xl ttOk rfl rfl (xst ttOk rfl rfl (xs rfl rfl (nl (et (ev_ret (evr_then (ret_pureN ttOk rfl rfl ?_)))))))))
         first
         | (rw [wrote_no (by assumption)]; simp [RpLe, L2, RcLe, zeroD]; done)
         | (rw [wrote_fail (by assumption) (wroteOk1 (by assumption))]; simp [RpLe, L2, RcLe]; done)
         | (rw [wrote_fail (by assumption) (wroteOk2 (by assumption))]; simp [RpLe, L2, RcLe]; done)
         | (rw [wrote_fail (by assumption) (wroteOk3 (by omega))]; simp [RpLe, L2, RcLe]; done)
         | (rw [wrote_yes (by assumption) (by simp only [wroteOk, Bool.and_eq_true, decide_eq_true_eq]; exact ⟨by assumption, by assumption, by omega⟩)]; simp [RpLe, L2, RcLe]; done)
       · try have d4 := of_decide_eq_false h4
         refine ev_skip (et (sq (ev_drawq [7, 9] mo (rdk_take 0 rfl (by kernel_rfl) trivial (q_fieldAddr ttOk rfl) rfl (rdk_take 1 rfl (by kernel_rfl) trivial (q_load ttOk rfl) rfl (rdk_take 2 rfl (by kernel_rfl) trivial (q_move rfl) rfl (rdk_take 3 rfl (by kernel_rfl) trivial (q_move rfl) rfl (rdk_one 4 (by kernel_rfl) (rdo_call (nm := 35) rfl trivial (cf rfl) (c_l1Copy _ (by omega)) (rs_of rfl) rfl rfl rfl (rdk_take 5 rfl (by kernel_rfl) trivial (q_build ttOk rfl) rfl (rdk_one 6 (by kernel_rfl) (rdo_new rfl trivial (e_lit ttOk rfl rfl rfl) (rdk_one 7 (by kernel_rfl) (rdo_brk rfl rfl trivial (e_app ttOk rfl rfl rfl rfl rfl rfl rfl (by simp; omega) rfl rfl) (rdb_q 8 rfl (by kernel_rfl) trivial (q_fieldAddr ttOk rfl) rfl (rdb_eff 9 rfl (by kernel_rfl) trivial (e_store ttOk rfl) (rdb_endq (by kernel_rfl) (et (ev_pr [6, 7, 8, 40] rfl (sq (rg (xl ttOk rfl rfl (xst ttOk rfl rfl (xs rfl rfl (nl (et (ev_ret (ret_pureN ttOk rfl rfl ?_))))))))))))))))))))))))))))
         first
         | (rw [wrote_no (by assumption)]; simp [RpLe, L2, RcLe, zeroD]; done)
         | (rw [wrote_fail (by assumption) (wroteOk1 (by assumption))]; simp [RpLe, L2, RcLe]; done)
         | (rw [wrote_fail (by assumption) (wroteOk2 (by assumption))]; simp [RpLe, L2, RcLe]; done)
         | (rw [wrote_fail (by assumption) (wroteOk3 (by omega))]; simp [RpLe, L2, RcLe]; done)
         | (rw [wrote_yes (by assumption) (by simp only [wroteOk, Bool.and_eq_true, decide_eq_true_eq]; exact ⟨by assumption, by assumption, by omega⟩)]; simp [RpLe, L2, RcLe]; done)
theorem c_Wrote' (d : Disk) (x : Int) (row : List Int) : Pure Tryz.prog 218 [many (diskC d), one (iC x), one (ints row)] [many' (diskR ((wroteF d x row).1)), one' (RC.v (.bool ((wroteF d x row).2)))] := by
 refine pure_intro (N := 41) Tryz.func218 rfl rfl rfl rfl (fun H w => ?_)
 refine sq (rg (evl_e (e_box rfl rfl rfl rfl) (evl_e (e_alloc ttOk rfl rfl rfl rfl) (xs rfl rfl (nl (et (sq (sq (rg (xl ttOk rfl rfl (evl_call (nm := 10) (cf rfl) (c_DiskOk' d) (rs_of rfl) rfl rfl rfl (xo (q_not rfl) rfl (nl (et (ev_cond_n rfl (fun h1 => ?_) (fun h1 => ?_))))))))))))))))
 · try have d1 := of_decide_eq_false h1
   refine sq (rg (xo (q_build ttOk rfl) rfl (xst ttOk rfl rfl (xs rfl rfl (nl (et (ev_ret (evr_then (ret_pureN ttOk rfl rfl ?_)))))))))
   first
   | (rw [wrote_no (by assumption)]; simp [RpLe, L2, RcLe, zeroD]; done)
   | (rw [wrote_fail (by assumption) (wroteOk1 (by assumption))]; simp [RpLe, L2, RcLe]; done)
   | (rw [wrote_fail (by assumption) (wroteOk2 (by assumption))]; simp [RpLe, L2, RcLe]; done)
   | (rw [wrote_fail (by assumption) (wroteOk3 (by omega))]; simp [RpLe, L2, RcLe]; done)
   | (rw [wrote_yes (by assumption) (by simp only [wroteOk, Bool.and_eq_true, decide_eq_true_eq]; exact ⟨by assumption, by assumption, by omega⟩)]; simp [RpLe, L2, RcLe]; done)
 · try have d1 := of_decide_eq_true h1
   have hs := diskOk_sizes h1
   refine ev_skip (et (sq (rg (xl ttOk rfl rfl (evl_call (nm := 14) (cf rfl) (c_copyDisk d (by assumption)) (rs_of rfl) rfl rfl rfl (evl_e (e_alloc ttOk rfl rfl rfl rfl) (xst ttOk rfl rfl (nl (et (sq (sq (rg (xl ttOk rfl rfl (xm rfl rfl (evl_call (nm := 17) (cf rfl) (c_sectorOk d _) (rs_of rfl) rfl rfl rfl (xo (q_not rfl) rfl (xm rfl rfl (evl_partn rfl rfl (fun h2 => ?_) (fun h2 => ?_)))))))))))))))))))
   · try have d2 := of_decide_eq_false h2
     refine gn (nt h2) rfl rfl rfl (gn (nt h2) rfl rfl rfl (gn (nt h2) rfl rfl rfl (xo (q_pick_t rfl (nt h2) rfl) rfl (xm rfl rfl (gn rfl rfl rfl rfl (gn rfl rfl rfl rfl (gn rfl rfl rfl rfl (gn rfl rfl rfl rfl (xo (q_pick_t rfl rfl rfl) rfl (nl (et (ev_cond_kt rfl rfl (sq (rg (xl ttOk rfl rfl (xst ttOk rfl rfl (xs rfl rfl (nl (et (ev_ret (evr_then (ret_pureN ttOk rfl rfl ?_))))))))))))))))))))))
     first
     | (rw [wrote_no (by assumption)]; simp [RpLe, L2, RcLe, zeroD]; done)
     | (rw [wrote_fail (by assumption) (wroteOk1 (by assumption))]; simp [RpLe, L2, RcLe]; done)
     | (rw [wrote_fail (by assumption) (wroteOk2 (by assumption))]; simp [RpLe, L2, RcLe]; done)
     | (rw [wrote_fail (by assumption) (wroteOk3 (by omega))]; simp [RpLe, L2, RcLe]; done)
     | (rw [wrote_yes (by assumption) (by simp only [wroteOk, Bool.and_eq_true, decide_eq_true_eq]; exact ⟨by assumption, by assumption, by omega⟩)]; simp [RpLe, L2, RcLe]; done)
   · try have d2 := of_decide_eq_true h2
     refine gm (nf h2) rfl rfl rfl rfl (evl_callg rfl rfl (nf h2) (nm := 21) (cf rfl) (c_RowOk' _) (rs_of rfl) rfl rfl rfl (go (nf h2) rfl rfl (q_not rfl) rfl (xo (q_pick_f rfl (nf h2) rfl) rfl (xm rfl rfl (evl_partn rfl rfl (fun h3 => ?_) (fun h3 => ?_))))))
     · try have d3 := of_decide_eq_false h3
       refine gn (nt h3) rfl rfl rfl (gn (nt h3) rfl rfl rfl (gn (nt h3) rfl rfl rfl (gn (nt h3) rfl rfl rfl (xo (q_pick_t rfl (nt h3) rfl) rfl (nl (et (ev_cond_kt rfl rfl (sq (rg (xl ttOk rfl rfl (xst ttOk rfl rfl (xs rfl rfl (nl (et (ev_ret (evr_then (ret_pureN ttOk rfl rfl ?_)))))))))))))))))
       first
       | (rw [wrote_no (by assumption)]; simp [RpLe, L2, RcLe, zeroD]; done)
       | (rw [wrote_fail (by assumption) (wroteOk1 (by assumption))]; simp [RpLe, L2, RcLe]; done)
       | (rw [wrote_fail (by assumption) (wroteOk2 (by assumption))]; simp [RpLe, L2, RcLe]; done)
       | (rw [wrote_fail (by assumption) (wroteOk3 (by omega))]; simp [RpLe, L2, RcLe]; done)
       | (rw [wrote_yes (by assumption) (by simp only [wroteOk, Bool.and_eq_true, decide_eq_true_eq]; exact ⟨by assumption, by assumption, by omega⟩)]; simp [RpLe, L2, RcLe]; done)
     · try have d3 := of_decide_eq_true h3
       have hr := (rowOk_nums h3).1
       refine go (nf h3) rfl rfl (q_fieldAddr ttOk rfl) rfl (go (nf h3) rfl rfl (q_load ttOk rfl) rfl (go (nf h3) rfl rfl (q_len_map ttOk rfl rfl) rfl (go (nf h3) rfl rfl (q_bin ttOk rfl) rfl (xo (q_pick_f rfl (nf h3) rfl) rfl (nl (et (ev_cond rfl (fun h4 => ?_) (fun h4 => ?_))))))))
       · try have d4 := of_decide_eq_true h4
         refine sq (rg (xl ttOk rfl rfl (xst ttOk rfl rfl (xs rfl rfl (nl (et (ev_ret (evr_then (ret_pureN ttOk rfl rfl ?_)))))))))
         first
         | (rw [wrote_no (by assumption)]; simp [RpLe, L2, RcLe, zeroD]; done)
         | (rw [wrote_fail (by assumption) (wroteOk1 (by assumption))]; simp [RpLe, L2, RcLe]; done)
         | (rw [wrote_fail (by assumption) (wroteOk2 (by assumption))]; simp [RpLe, L2, RcLe]; done)
         | (rw [wrote_fail (by assumption) (wroteOk3 (by omega))]; simp [RpLe, L2, RcLe]; done)
         | (rw [wrote_yes (by assumption) (by simp only [wroteOk, Bool.and_eq_true, decide_eq_true_eq]; exact ⟨by assumption, by assumption, by omega⟩)]; simp [RpLe, L2, RcLe]; done)
       · try have d4 := of_decide_eq_false h4
         refine ev_skip (et (sq (ev_drawq [7, 9] mo (rdk_take 0 rfl (by kernel_rfl) trivial (q_fieldAddr ttOk rfl) rfl (rdk_take 1 rfl (by kernel_rfl) trivial (q_load ttOk rfl) rfl (rdk_take 2 rfl (by kernel_rfl) trivial (q_move rfl) rfl (rdk_take 3 rfl (by kernel_rfl) trivial (q_move rfl) rfl (rdk_one 4 (by kernel_rfl) (rdo_call (nm := 35) rfl trivial (cf rfl) (c_copyRow _ (by omega)) (rs_of rfl) rfl rfl rfl (rdk_take 5 rfl (by kernel_rfl) trivial (q_build ttOk rfl) rfl (rdk_one 6 (by kernel_rfl) (rdo_new rfl trivial (e_lit ttOk rfl rfl rfl) (rdk_one 7 (by kernel_rfl) (rdo_brk rfl rfl trivial (e_app ttOk rfl rfl rfl rfl rfl rfl rfl (by simp; omega) rfl rfl) (rdb_q 8 rfl (by kernel_rfl) trivial (q_fieldAddr ttOk rfl) rfl (rdb_eff 9 rfl (by kernel_rfl) trivial (e_store ttOk rfl) (rdb_endq (by kernel_rfl) (et (ev_pr [6, 7, 8, 40] rfl (sq (rg (xl ttOk rfl rfl (xst ttOk rfl rfl (xs rfl rfl (nl (et (ev_ret (ret_pureN ttOk rfl rfl ?_))))))))))))))))))))))))))))
         first
         | (rw [wrote_no (by assumption)]; simp [RpLe, L2, RcLe, zeroD]; done)
         | (rw [wrote_fail (by assumption) (wroteOk1 (by assumption))]; simp [RpLe, L2, RcLe]; done)
         | (rw [wrote_fail (by assumption) (wroteOk2 (by assumption))]; simp [RpLe, L2, RcLe]; done)
         | (rw [wrote_fail (by assumption) (wroteOk3 (by omega))]; simp [RpLe, L2, RcLe]; done)
         | (rw [wrote_yes (by assumption) (by simp only [wroteOk, Bool.and_eq_true, decide_eq_true_eq]; exact ⟨by assumption, by assumption, by omega⟩)]; simp [RpLe, L2, RcLe]; done)
theorem c_BothWrote (t : Two) (x : Int) (row : List Int) : Pure Tryz.prog 117 [many (twoC t), one (iC x), one (ints row)] [many' (twoR ((bothWroteF t x row).1)), one' (RC.v (.bool ((bothWroteF t x row).2)))] := by
 refine pure_intro (N := 51) Tryz.func117 rfl rfl rfl rfl (fun H w => ?_)
 have hsl := withSum_len (l := row)
 refine sq (rg (evl_e (e_box rfl rfl rfl rfl) (evl_e (e_alloc ttOk rfl rfl rfl rfl) (xs rfl rfl (nl (et (sq (sq (rg (xl ttOk rfl rfl (evl_call (nm := 14) (cf rfl) (c_TwoOk t) (rs_of rfl) rfl rfl rfl (xo (q_not rfl) rfl (nl (et (ev_cond_n rfl (fun h1 => ?_) (fun h1 => ?_))))))))))))))))
 · refine sq (rg (xo (q_build ttOk rfl) rfl (xst ttOk rfl rfl (xs rfl rfl (nl (et (ev_ret (evr_then (ret_pureN ttOk rfl rfl ?_)))))))))
   first
   | (rw [both_no (by assumption)]; simp [RpLe, L2, RcLe, zeroD, zeroT]; done)
   | (rw [both_yes (by assumption) (by assumption) (by assumption) (by assumption)]; simp [RpLe, L2, RcLe]; done)
   | (rw [both_fail (by assumption) (by simp_all; done)]; simp [RpLe, L2, RcLe]; done)
   | (exfalso; simp_all; done)
 · obtain ⟨hka, hkb⟩ := twoOk_both h1
   refine ev_skip (et (sq (rg (xm rfl rfl (evl_call (nm := 18) (cf rfl) (c_WithSum row) (rs_of rfl) rfl rfl rfl (xs rfl rfl (nl (et (sq (rg (xf ttOk rfl rfl (xl ttOk rfl rfl (xm rfl rfl (xm rfl rfl ?_))))))))))))))
   first | refine evl_call (nm := 24) (cf rfl) (c_Wrote t.a x (withSumF row)) (rs_of rfl) rfl rfl rfl ?_ | refine evl_call (nm := 24) (cf rfl) (c_Wrote t.b x (withSumF row)) (rs_of rfl) rfl rfl rfl ?_
   refine xm rfl rfl (xo (q_ext rfl) rfl (xo (q_ext rfl) rfl (evl_e (e_alloc ttOk rfl rfl rfl rfl) (xst ttOk rfl rfl (xs rfl rfl (nl (et (sq (rg (xf ttOk rfl rfl (xl ttOk rfl rfl (xm rfl rfl (xm rfl rfl ?_)))))))))))))
   first | refine evl_call (nm := 32) (cf rfl) (c_Wrote t.a x (withSumF row)) (rs_of rfl) rfl rfl rfl ?_ | refine evl_call (nm := 32) (cf rfl) (c_Wrote t.b x (withSumF row)) (rs_of rfl) rfl rfl rfl ?_
   refine xm rfl rfl (xo (q_ext rfl) rfl (xo (q_ext rfl) rfl (evl_e (e_alloc ttOk rfl rfl rfl rfl) (xst ttOk rfl rfl (xs rfl rfl (nl (et (sq (sq (rg (xm rfl rfl (xo (q_len_rtm ttOk rfl rfl rfl) rfl (xb ttOk rfl rfl (xm rfl rfl (evl_part rfl rfl (fun h2 => ?_) (fun h2 => ?_))))))))))))))))
   · have hcs : canSum row = false := by have := hsl.2; cases hc : canSum row <;> simp_all
     refine gn h2 rfl rfl rfl (gn h2 rfl rfl rfl (xo (q_pick_t rfl h2 rfl) rfl (xm rfl rfl (gn rfl rfl rfl rfl (gn rfl rfl rfl rfl (xo (q_pick_t rfl rfl rfl) rfl (nl (et (ev_cond_kt rfl rfl (sq (rg (xl ttOk rfl rfl (evl_call (nm := 47) (cf rfl) (c_l4Copy t (by assumption)) (rs_of rfl) rfl rfl rfl (xst ttOk rfl rfl (xs rfl rfl (nl (et (ev_ret (evr_then (ret_pureN ttOk rfl rfl ?_))))))))))))))))))))
     first
     | (rw [both_no (by assumption)]; simp [RpLe, L2, RcLe, zeroD, zeroT]; done)
     | (rw [both_yes (by assumption) (by assumption) (by assumption) (by assumption)]; simp [RpLe, L2, RcLe]; done)
     | (rw [both_fail (by assumption) (by simp_all; done)]; simp [RpLe, L2, RcLe]; done)
     | (exfalso; simp_all; done)
   · have hcs : canSum row = true := by have := hsl.2; cases hc : canSum row <;> simp_all
     refine gm h2 rfl rfl rfl rfl (go h2 rfl rfl (q_not rfl) rfl (xo (q_pick_f rfl h2 rfl) rfl (xm rfl rfl (evl_partn rfl rfl (fun h3 => ?_) (fun h3 => ?_)))))
     · refine gn (nt h3) rfl rfl rfl (gn (nt h3) rfl rfl rfl (xo (q_pick_t rfl (nt h3) rfl) rfl (nl (et (ev_cond_kt rfl rfl (sq (rg (xl ttOk rfl rfl (evl_call (nm := 47) (cf rfl) (c_l4Copy t (by assumption)) (rs_of rfl) rfl rfl rfl (xst ttOk rfl rfl (xs rfl rfl (nl (et (ev_ret (evr_then (ret_pureN ttOk rfl rfl ?_))))))))))))))))
       first
       | (rw [both_no (by assumption)]; simp [RpLe, L2, RcLe, zeroD, zeroT]; done)
       | (rw [both_yes (by assumption) (by assumption) (by assumption) (by assumption)]; simp [RpLe, L2, RcLe]; done)
       | (rw [both_fail (by assumption) (by simp_all; done)]; simp [RpLe, L2, RcLe]; done)
       | (exfalso; simp_all; done)
     · refine gm (nf h3) rfl rfl rfl rfl (go (nf h3) rfl rfl (q_not rfl) rfl (xo (q_pick_f rfl (nf h3) rfl) rfl (nl (et (ev_cond_n rfl (fun h4 => ?_) (fun h4 => ?_))))))
       · refine sq (rg (xl ttOk rfl rfl (evl_call (nm := 47) (cf rfl) (c_l4Copy t (by assumption)) (rs_of rfl) rfl rfl rfl (xst ttOk rfl rfl (xs rfl rfl (nl (et (ev_ret (evr_then (ret_pureN ttOk rfl rfl ?_))))))))))
         first
         | (rw [both_no (by assumption)]; simp [RpLe, L2, RcLe, zeroD, zeroT]; done)
         | (rw [both_yes (by assumption) (by assumption) (by assumption) (by assumption)]; simp [RpLe, L2, RcLe]; done)
         | (rw [both_fail (by assumption) (by simp_all; done)]; simp [RpLe, L2, RcLe]; done)
         | (exfalso; simp_all; done)
       · refine ev_skip (et (sq (rg (xl ttOk rfl rfl (xl ttOk rfl rfl (xo (q_build ttOk rfl) rfl (xst ttOk rfl rfl (xs rfl rfl (nl (et (ev_ret (ret_pureN ttOk rfl rfl ?_))))))))))))
         first
         | (rw [both_no (by assumption)]; simp [RpLe, L2, RcLe, zeroD, zeroT]; done)
         | (rw [both_yes (by assumption) (by assumption) (by assumption) (by assumption)]; simp [RpLe, L2, RcLe]; done)
         | (rw [both_fail (by assumption) (by simp_all; done)]; simp [RpLe, L2, RcLe]; done)
         | (exfalso; simp_all; done)

end Go.Proofs.YtphaggopgdbojaaGreat
namespace Go.Proofs.YtphaggopgdbojaaGreat
open Go.ChangeShapes Go.WideShapes Go.ChangeAt Go.RowKit
set_option linter.unusedVariables false
set_option linter.unusedSimpArgs false
set_option maxHeartbeats 1000000
set_option maxRecDepth 100000
attribute [local irreducible] EvL Ev EvE Quiet Eff Pure RDk RDb RDo
theorem rs_c_sub {S : St} {x y : Operand} {c z : C} {r n k j ty : Nat} {l : List (List C)} {cs : List C} (hx : opv S.T x = some (.p false [.c c])) (hy : opv S.T y = some (.p false [.sub r n k j])) (hr : lk S.R r = some (ty, n, l)) (hk : l[k]? = some cs) (hj : cs[j]? = some z) : RsA S [x, y] [(false, [c]), (false, [z])] := ⟨⟨_, hx, rfl, trivial⟩, ⟨_, hy, ⟨ty, l, cs, hr, hk, hj⟩, trivial⟩, trivial⟩
def tornF (row old : List Int) : List Int := row.take (row.length / 2) ++ old.drop (row.length / 2)
def fallStep (fate : Int) (all : Bool) (K : List (List Int)) (x : Int × List Int) : List (List Int) := if all = true ∨ fate = 1 then K.set x.1.toNat x.2 else if fate = 2 then K.set x.1.toNat (tornF x.2 (K.getD x.1.toNat [])) else K
def fateAt (F : List Int) (k : Nat) : Int := F.getD k 0
def fallUp (d : Disk) (F : List Int) (all : Bool) : Nat → List (List Int)
  | 0 => d.kept
  | k + 1 => fallStep (fateAt F k) all (fallUp d F all k) (d.wait.getD k (0, []))
def fallF (d : Disk) (F : List Int) (all : Bool) : Disk := if diskOk d then ⟨fallUp d F all d.wait.length, []⟩ else zeroD
theorem fall_no {d : Disk} {F : List Int} {all : Bool} (h : diskOk d = false) : fallF d F all = zeroD := by simp [fallF, h]
theorem fall_yes {d : Disk} {F : List Int} {all : Bool} (h : diskOk d = true) : fallF d F all = ⟨fallUp d F all d.wait.length, []⟩ := by simp [fallF, h]
theorem fallUp_len (d : Disk) (F : List Int) (all : Bool) : ∀ k, (fallUp d F all k).length = d.kept.length
  | 0 => rfl
  | k + 1 => by
    have := fallUp_len d F all k
    simp only [fallUp, fallStep]
    split
    · simpa using this
    · split
      · simpa using this
      · exact this
theorem wait_at {d : Disk} (h : diskOk d = true) {k : Nat} (hk : k < d.wait.length) : 0 ≤ d.wait[k].1 ∧ d.wait[k].1 < d.kept.length ∧ d.wait[k].2.length ≤ 48 := by
  have := (diskOk_sizes h).2.2.2.2 _ (List.getElem_mem hk)
  simp only [writeOk, Bool.and_eq_true] at this
  have h2 := hasAt_iff.1 this.1
  exact ⟨h2.1, h2.2, (rowOk_nums this.2).1⟩
theorem fallUp_rows {d : Disk} (h : diskOk d = true) (F : List Int) (all : Bool) : ∀ k, k ≤ d.wait.length → ∀ r ∈ fallUp d F all k, r.length ≤ 48
  | 0, _ => fun r hr => (rowOk_nums ((diskOk_sizes h).2.2.2.1 r hr)).1
  | k + 1, hk => fun r hr => by
    have ih := fallUp_rows h F all k (by omega)
    have hw := wait_at h (k := k) (by omega)
    rw [show fallUp d F all (k + 1) = fallStep (fateAt F k) all (fallUp d F all k) d.wait[k] by simp only [fallUp]; rw [getD_lenW (show k < d.wait.length by omega)]] at hr
    have key : ∀ z : List Int, z.length ≤ 48 → r ∈ (fallUp d F all k).set d.wait[k].1.toNat z → r.length ≤ 48 := fun z hz hm => by
      rcases List.mem_or_eq_of_mem_set hm with h9 | h9
      · exact ih r h9
      · rw [h9]; exact hz
    simp only [fallStep] at hr
    split at hr
    · exact key _ hw.2.2 hr
    · split at hr
      · refine key _ ?_ hr
        have hx : d.wait[k].1.toNat < (fallUp d F all k).length := by rw [fallUp_len]; omega
        rw [getD_len hx]
        have := ih _ (List.getElem_mem hx)
        simp only [tornF, List.length_append, List.length_take, List.length_drop]
        omega
      · exact ih r hr
theorem fall_kept {d : Disk} {F : List Int} {all : Bool} {k : Nat} (hk : k < d.wait.length) (h : all = true ∨ fateAt F k = 1) : ((fallUp d F all k).map fun r => [ints r]).set d.wait[k].1.toNat [ints d.wait[k].2] = (fallUp d F all (k + 1)).map fun r => [ints r] := by
  simp only [fallUp, fallStep, getD_lenW hk]
  rw [if_pos h, List.map_set]
theorem fall_torn {d : Disk} {F : List Int} {all : Bool} {k : Nat} (hk : k < d.wait.length) (h0 : ¬ (all = true ∨ fateAt F k = 1)) (h : fateAt F k = 2) (hx : d.wait[k].1.toNat < (fallUp d F all k).length) : ((fallUp d F all k).map fun r => [ints r]).set d.wait[k].1.toNat [ints (tornF d.wait[k].2 (fallUp d F all k)[d.wait[k].1.toNat])] = (fallUp d F all (k + 1)).map fun r => [ints r] := by
  simp only [fallUp, fallStep, getD_lenW hk]
  rw [if_neg h0, if_pos h, List.map_set, getD_len hx]
theorem fall_lost {d : Disk} {F : List Int} {all : Bool} {k : Nat} (h0 : ¬ (all = true ∨ fateAt F k = 1)) (h : ¬ fateAt F k = 2) : ((fallUp d F all k).map fun r => [ints r]) = (fallUp d F all (k + 1)).map fun r => [ints r] := by
  simp only [fallUp, fallStep]
  rw [if_neg h0, if_neg h]
theorem fate_in {F : List Int} {k : Nat} (hk : k < F.length) : fateAt F k = F[k] := by simp [fateAt, hk]
theorem fate_out {F : List Int} {k : Nat} (hk : ¬ k < F.length) : fateAt F k = 0 := by simp [fateAt, hk]
theorem c_BothWrote' (t : Two) (x : Int) (row : List Int) : Pure Tryz.prog 172 [many (twoC t), one (iC x), one (ints row)] [many' (twoR ((bothWroteF t x row).1)), one' (RC.v (.bool ((bothWroteF t x row).2)))] := by
 refine pure_intro (N := 48) Tryz.func172 rfl rfl rfl rfl (fun H w => ?_)
 refine sq (rg (evl_e (e_box rfl rfl rfl rfl) (evl_e (e_alloc ttOk rfl rfl rfl rfl) (xs rfl rfl (nl (et (sq (sq (rg (xl ttOk rfl rfl (evl_call (nm := 15) (cf rfl) (c_TwoOk' t) (rs_of rfl) rfl rfl rfl (xo (q_not rfl) rfl (nl (et (ev_cond_n rfl (fun h1 => ?_) (fun h1 => ?_))))))))))))))))
 · refine sq (rg (xo (q_build ttOk rfl) rfl (xst ttOk rfl rfl (xs rfl rfl (nl (et (ev_ret (evr_then (ret_pureN ttOk rfl rfl ?_)))))))))
   first
   | (rw [both_no (by assumption)]; simp [RpLe, L2, RcLe, zeroD, zeroT]; done)
   | (rw [both_yes (by assumption) (by assumption) (by assumption) (by assumption)]; simp [RpLe, L2, RcLe]; done)
   | (rw [both_fail (by assumption) (by simp_all; done)]; simp [RpLe, L2, RcLe]; done)
   | (exfalso; simp_all; done)
 · obtain ⟨hka, hkb⟩ := twoOk_both h1
   refine ev_skip (et ?_)
   cases hcs : canSum row
   · refine sq (rg (xm rfl rfl (evl_call (nm := 19) (cf rfl) (c_WithSum_nil row (by assumption)) (rs_of rfl) rfl rfl rfl (xs rfl rfl (nl (et (sq (sq (rg (xm rfl rfl ?_))))))))))
     first | refine xb ttOk rfl rfl ?_ | refine xo (q_nilv ttOk rfl rfl ⟨_, _, _, rfl, rfl⟩ (by rw [withSum_yes (by assumption)]; simp) rfl rfl) rfl ?_
     refine nl (et (ev_cond_kt rfl (by first | rfl | assumption | exact nt (by assumption) | exact nf (by assumption)) (sq (rg (xl ttOk rfl rfl (evl_call (nm := 23) (cf rfl) (c_copyTwo t (by assumption)) (rs_of rfl) rfl rfl rfl (xst ttOk rfl rfl (xs rfl rfl (nl (et (ev_ret (evr_then (ret_pureN ttOk rfl rfl ?_)))))))))))))
     first
     | (rw [both_no (by assumption)]; simp [RpLe, L2, RcLe, zeroD, zeroT]; done)
     | (rw [both_yes (by assumption) (by assumption) (by assumption) (by assumption)]; simp [RpLe, L2, RcLe]; done)
     | (rw [both_fail (by assumption) (by simp_all; done)]; simp [RpLe, L2, RcLe]; done)
     | (exfalso; simp_all; done)
   · refine sq (rg (xm rfl rfl (evl_call (nm := 19) (cf rfl) (c_WithSum' row) (rs_of rfl) rfl rfl rfl (xs rfl rfl (nl (et (sq (sq (rg (xm rfl rfl ?_))))))))))
     first | refine xb ttOk rfl rfl ?_ | refine xo (q_nilv ttOk rfl rfl ⟨_, _, _, rfl, rfl⟩ (by rw [withSum_yes (by assumption)]; simp) rfl rfl) rfl ?_
     refine nl (et (ev_cond_kf rfl (by first | rfl | assumption | exact nt (by assumption) | exact nf (by assumption)) (ev_skip (et (sq (rg (xl ttOk rfl rfl (evl_callv (cf rfl) hands_disks rfl rfl rfl rfl (evl_e (e_alloc ttOk rfl rfl rfl rfl) (xst ttOk rfl rfl (nl (et (sq (sq (rg (xl ttOk rfl rfl (xm rfl rfl (nl (et (ev_blk (ev_rounds 2 (sq (rg (xb ttOk rfl rfl (nl (et (sq (ev_cond_kt rfl (by first | rfl | assumption | exact nt (by assumption) | exact nf (by assumption)) (ev_skip (et (sq (ev_blk (sq (rg (xm rfl rfl ?_)))))))))))))))))))))))))))))))))))
     first | refine xo (q_index 0 ttOk rfl rfl (by omega)) rfl ?_ | refine xo (q_index 1 ttOk rfl rfl (by omega)) rfl ?_
     refine evl_e (e_alloc ttOk rfl rfl rfl rfl) (xs rfl rfl (xst ttOk rfl rfl (nl (et (sq (rg (xl ttOk rfl rfl (xm rfl rfl (xm rfl rfl ?_)))))))))
     first | refine evl_call (nm := 35) (cf rfl) (c_Wrote' t.a x (withSumF row)) (rs_of rfl) rfl rfl rfl ?_ | refine evl_call (nm := 35) (cf rfl) (c_Wrote' t.b x (withSumF row)) (rs_of rfl) rfl rfl rfl ?_
     refine xm rfl rfl (xo (q_ext rfl) rfl (xo (q_ext rfl) rfl (evl_e (e_alloc ttOk rfl rfl rfl rfl) (xst ttOk rfl rfl (xs rfl rfl (nl (et (sq (sq (rg (xm rfl rfl (xo (q_not rfl) rfl (nl (et (ev_cond_n rfl (fun h2 => ?_) (fun h2 => ?_))))))))))))))))
     · refine sq (rg (xl ttOk rfl rfl (evl_call (nm := 41) (cf rfl) (c_copyTwo t (by assumption)) (rs_of rfl) rfl rfl rfl (xst ttOk rfl rfl (xs rfl rfl (nl (et (ev_ret (evr_then (evr_blk (evr_then (evr_then (evr_blk (evr_then (ret_pureN ttOk rfl rfl ?_)))))))))))))))
       first
       | (rw [both_no (by assumption)]; simp [RpLe, L2, RcLe, zeroD, zeroT]; done)
       | (rw [both_yes (by assumption) (by assumption) (by assumption) (by assumption)]; simp [RpLe, L2, RcLe]; done)
       | (rw [both_fail (by assumption) (by simp_all; done)]; simp [RpLe, L2, RcLe]; done)
       | (exfalso; simp_all; done)
     · refine ev_skip (et (rg (xm rfl rfl (xl ttOk rfl rfl ?_))))
       first | refine xo (q_ix_arr 0 ttOk rfl rfl (by omega)) rfl ?_ | refine xo (q_ix_arr 1 ttOk rfl rfl (by omega)) rfl ?_
       refine xst ttOk rfl rfl (nl (eb (et (rg (xa rfl rfl rfl (by omega) rfl (xm rfl rfl (nl (eve_again (ev_pr [1, 3, 6, 7, 8, 9, 26, 27] rfl (ev_remB [11, 12] rfl (sq (rg (xb ttOk rfl rfl (nl (et (sq (ev_cond_kt rfl (by first | rfl | assumption | exact nt (by assumption) | exact nf (by assumption)) (ev_skip (et (sq (ev_blk (sq (rg (xm rfl rfl ?_))))))))))))))))))))))))
       first | refine xo (q_index 0 ttOk rfl rfl (by omega)) rfl ?_ | refine xo (q_index 1 ttOk rfl rfl (by omega)) rfl ?_
       refine evl_e (e_alloc ttOk rfl rfl rfl rfl) (xs rfl rfl (xst ttOk rfl rfl (nl (et (sq (rg (xl ttOk rfl rfl (xm rfl rfl (xm rfl rfl ?_)))))))))
       first | refine evl_call (nm := 1000035) (cf rfl) (c_Wrote' t.a x (withSumF row)) (rs_of rfl) rfl rfl rfl ?_ | refine evl_call (nm := 1000035) (cf rfl) (c_Wrote' t.b x (withSumF row)) (rs_of rfl) rfl rfl rfl ?_
       refine xm rfl rfl (xo (q_ext rfl) rfl (xo (q_ext rfl) rfl (evl_e (e_alloc ttOk rfl rfl rfl rfl) (xst ttOk rfl rfl (xs rfl rfl (nl (et (sq (sq (rg (xm rfl rfl (xo (q_not rfl) rfl (nl (et (ev_cond_n rfl (fun h3 => ?_) (fun h3 => ?_))))))))))))))))
       · refine sq (rg (xl ttOk rfl rfl (evl_call (nm := 1000041) (cf rfl) (c_copyTwo t (by assumption)) (rs_of rfl) rfl rfl rfl (xst ttOk rfl rfl (xs rfl rfl (nl (et (ev_ret (evr_then (evr_blk (evr_then (evr_then (evr_blk (evr_then (ret_pureN ttOk rfl rfl ?_)))))))))))))))
         first
         | (rw [both_no (by assumption)]; simp [RpLe, L2, RcLe, zeroD, zeroT]; done)
         | (rw [both_yes (by assumption) (by assumption) (by assumption) (by assumption)]; simp [RpLe, L2, RcLe]; done)
         | (rw [both_fail (by assumption) (by simp_all; done)]; simp [RpLe, L2, RcLe]; done)
         | (exfalso; simp_all; done)
       · refine ev_skip (et (rg (xm rfl rfl (xl ttOk rfl rfl ?_))))
         first | refine xo (q_ix_arr 0 ttOk rfl rfl (by omega)) rfl ?_ | refine xo (q_ix_arr 1 ttOk rfl rfl (by omega)) rfl ?_
         refine xst ttOk rfl rfl (nl (eb (et (rg (xa rfl rfl rfl (by omega) rfl (xm rfl rfl (nl (eve_again (ev_pr [1, 3, 6, 7, 8, 9, 26, 27] rfl (ev_remB [11, 12] rfl (sq (rg (xb ttOk rfl rfl (nl (et (sq (ev_cond_kf rfl (by first | rfl | assumption | exact nt (by assumption) | exact nf (by assumption)) (ev_exit (evx_then (evx_then (evx_hit (et (sq (rg (xl ttOk rfl rfl (evl_callv (cf rfl) hands_twoOf rfl rfl rfl rfl (xst ttOk rfl rfl (xs rfl rfl (nl (et (ev_ret (ret_pureN ttOk rfl rfl ?_))))))))))))))))))))))))))))))))
         first
         | (rw [both_no (by assumption)]; simp [RpLe, L2, RcLe, zeroD, zeroT]; done)
         | (rw [both_yes (by assumption) (by assumption) (by assumption) (by assumption)]; simp [RpLe, L2, RcLe]; done)
         | (rw [both_fail (by assumption) (by simp_all; done)]; simp [RpLe, L2, RcLe]; done)
         | (exfalso; simp_all; done)

end Go.Proofs.YtphaggopgdbojaaGreat
