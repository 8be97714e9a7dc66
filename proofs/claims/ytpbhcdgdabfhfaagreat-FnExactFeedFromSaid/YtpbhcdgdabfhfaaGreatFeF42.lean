/- Walks of functions of the program, printed by a program of the prover. -/
import Derived.Test.YtpbhcdgdabfhfaaGreatFeF41
namespace Go.Proofs.YtpbhcdgdabfhfaaGreat
open Go.ChangeShapes Go.WideShapes Go.ChangeAt Go.RowKit
set_option linter.unusedVariables false
set_option linter.unusedSimpArgs false
set_option maxHeartbeats 1000000
set_option maxRecDepth 100000
attribute [local irreducible] EvL Ev EvE Quiet Eff Pure RDk RDb RDo
theorem c_FeedFrom (n : LogN) (x : Int) : Pure Tryz.prog 40 [many (logC n), one (iC x)] [many' [.v (.int .i64 (feedF n x).1), .v (.int .i64 (feedF n x).2.1), entriesR (feedF n x).2.2]] := by
 refine pure_intro (N := 33) Tryz.func40 rfl rfl rfl rfl (fun H w => ?_)
 refine sq (rg (evl_e (e_box rfl rfl rfl rfl) (evl_e (e_alloc ttOk rfl rfl rfl rfl) (nl (et (sq (sq (rg (xl ttOk rfl rfl (evl_call (nm := 7) (cf rfl) (c_LogOk n) (rs_of rfl) rfl rfl rfl (xo (q_not rfl) rfl (xm rfl rfl (evl_partn rfl rfl (fun h1 => ?_) (fun h1 => ?_))))))))))))))
 · try have d1 := of_decide_eq_false h1
   refine gn (nt h1) rfl rfl rfl (gn (nt h1) rfl rfl rfl (gn (nt h1) rfl rfl rfl (xo (q_pick_t rfl (nt h1) rfl) rfl (nl (et (ev_cond_kt rfl rfl (sq (rg (xo (q_build ttOk rfl) rfl (xst ttOk rfl rfl (nl (et (ev_ret (evr_then (ret_pureN ttOk rfl rfl ?_)))))))))))))))
   first
   | (rw [fd_no1 (by assumption)]; simp [RpLe, L2, RcLe]; done)
   | (rw [fd_no2 (by assumption)]; simp [RpLe, L2, RcLe]; done)
   | (rw [fd_yes (by assumption) (by assumption)]; simp [RpLe, L2, RcLe, List.map_take]; done)
   | (rw [fd_yes (by assumption) (by assumption), List.take_of_length_le (by omega)]; simp [RpLe, L2, RcLe]; done)
 · try have d1 := of_decide_eq_true h1
   obtain ⟨hb, hd⟩ := log_facts h1
   have hbd := book_bd hb
   have hdd := inB_iff.1 hd
   refine gm (nf h1) rfl rfl rfl rfl (evl_callg rfl rfl (nf h1) (nm := 11) (cf rfl) (c_l1In _ _ _) (rs_of rfl) rfl rfl rfl (go (nf h1) rfl rfl (q_not rfl) rfl (xo (q_pick_f rfl (nf h1) rfl) rfl (nl (et (ev_cond_n rfl (fun h2 => ?_) (fun h2 => ?_)))))))
   · try have d2 := of_decide_eq_false h2
     refine sq (rg (xo (q_build ttOk rfl) rfl (xst ttOk rfl rfl (nl (et (ev_ret (evr_then (ret_pureN ttOk rfl rfl ?_))))))))
     first
     | (rw [fd_no1 (by assumption)]; simp [RpLe, L2, RcLe]; done)
     | (rw [fd_no2 (by assumption)]; simp [RpLe, L2, RcLe]; done)
     | (rw [fd_yes (by assumption) (by assumption)]; simp [RpLe, L2, RcLe, List.map_take]; done)
     | (rw [fd_yes (by assumption) (by assumption), List.take_of_length_le (by omega)]; simp [RpLe, L2, RcLe]; done)
   · try have d2 := of_decide_eq_true h2
     refine ev_skip (et (sq (rg (xf ttOk rfl rfl (xl ttOk rfl rfl (xm rfl rfl (xf ttOk rfl rfl (xl ttOk rfl rfl (evl_call (nm := 20) (cf rfl) (c_l12Part n.book x n.durable (book_len hb)) (rs_of rfl) rfl rfl rfl (xs rfl rfl (nl (et (sq (sq (rg (xm rfl rfl (xo (q_len_rtm ttOk rfl rfl rfl) rfl (xb ttOk rfl rfl (nl (et (ev_cond rfl (fun h3 => ?_) (fun h3 => ?_))))))))))))))))))))))
     · try have d3 := of_decide_eq_true h3
       refine rg (xm rfl rfl (evl_e (e_slto (k := 3) ttOk rfl rfl rfl rfl rfl (by simp; omega) rfl rfl) (xs rfl rfl (nl (et (sq (rg (xf ttOk rfl rfl (xf ttOk rfl rfl (xl ttOk rfl rfl (xf ttOk rfl rfl (xl ttOk rfl rfl (xm rfl rfl (xo (q_build ttOk rfl) rfl (xst ttOk rfl rfl (nl (et (ev_ret (ret_pureN ttOk rfl rfl ?_)))))))))))))))))))
       first
       | (rw [fd_no1 (by assumption)]; simp [RpLe, L2, RcLe]; done)
       | (rw [fd_no2 (by assumption)]; simp [RpLe, L2, RcLe]; done)
       | (rw [fd_yes (by assumption) (by assumption)]; simp [RpLe, L2, RcLe, List.map_take]; done)
       | (rw [fd_yes (by assumption) (by assumption), List.take_of_length_le (by omega)]; simp [RpLe, L2, RcLe]; done)
     · try have d3 := of_decide_eq_false h3
       refine ev_skip (et (sq (rg (xf ttOk rfl rfl (xf ttOk rfl rfl (xl ttOk rfl rfl (xf ttOk rfl rfl (xl ttOk rfl rfl (xm rfl rfl (xo (q_build ttOk rfl) rfl (xst ttOk rfl rfl (nl (et (ev_ret (ret_pureN ttOk rfl rfl ?_)))))))))))))))
       first
       | (rw [fd_no1 (by assumption)]; simp [RpLe, L2, RcLe]; done)
       | (rw [fd_no2 (by assumption)]; simp [RpLe, L2, RcLe]; done)
       | (rw [fd_yes (by assumption) (by assumption)]; simp [RpLe, L2, RcLe, List.map_take]; done)
       | (rw [fd_yes (by assumption) (by assumption), List.take_of_length_le (by omega)]; simp [RpLe, L2, RcLe]; done)
theorem c_FeedFrom' (n : LogN) (x : Int) : Pure Tryz.prog 41 [many (logC n), one (iC x)] [many' [.v (.int .i64 (feedF n x).1), .v (.int .i64 (feedF n x).2.1), entriesR (feedF n x).2.2]] := by
 refine pure_intro (N := 33) Tryz.func41 rfl rfl rfl rfl (fun H w => ?_)
 refine sq (rg (evl_e (e_box rfl rfl rfl rfl) (evl_e (e_alloc ttOk rfl rfl rfl rfl) (nl (et (sq (sq (rg (xl ttOk rfl rfl (evl_call (nm := 8) (cf rfl) (c_LogOk2 n) (rs_of rfl) rfl rfl rfl (xo (q_not rfl) rfl (xm rfl rfl (evl_partn rfl rfl (fun h1 => ?_) (fun h1 => ?_))))))))))))))
 · try have d1 := of_decide_eq_false h1
   refine gn (nt h1) rfl rfl rfl (gn (nt h1) rfl rfl rfl (gn (nt h1) rfl rfl rfl (xo (q_pick_t rfl (nt h1) rfl) rfl (nl (et (ev_cond_kt rfl rfl (sq (rg (xo (q_build ttOk rfl) rfl (xst ttOk rfl rfl (nl (et (ev_ret (evr_then (ret_pureN ttOk rfl rfl ?_)))))))))))))))
   first
   | (rw [fd_no1 (by assumption)]; simp [RpLe, L2, RcLe]; done)
   | (rw [fd_no2 (by assumption)]; simp [RpLe, L2, RcLe]; done)
   | (rw [fd_yes (by assumption) (by assumption), feed_part (by assumption)]; simp [RpLe, L2, RcLe]; done)
 · try have d1 := of_decide_eq_true h1
   obtain ⟨hb, hd⟩ := log_facts h1
   have hbd := book_bd hb
   have hdd := inB_iff.1 hd
   refine gm (nf h1) rfl rfl rfl rfl (evl_callg rfl rfl (nf h1) (nm := 12) (cf rfl) (c_between _ _ _) (rs_of rfl) rfl rfl rfl (go (nf h1) rfl rfl (q_not rfl) rfl (xo (q_pick_f rfl (nf h1) rfl) rfl (nl (et (ev_cond_n rfl (fun h2 => ?_) (fun h2 => ?_)))))))
   · try have d2 := of_decide_eq_false h2
     refine sq (rg (xo (q_build ttOk rfl) rfl (xst ttOk rfl rfl (nl (et (ev_ret (evr_then (ret_pureN ttOk rfl rfl ?_))))))))
     first
     | (rw [fd_no1 (by assumption)]; simp [RpLe, L2, RcLe]; done)
     | (rw [fd_no2 (by assumption)]; simp [RpLe, L2, RcLe]; done)
     | (rw [fd_yes (by assumption) (by assumption), feed_part (by assumption)]; simp [RpLe, L2, RcLe]; done)
   · try have d2 := of_decide_eq_true h2
     refine ev_skip (et (sq (rg (xf ttOk rfl rfl (xl ttOk rfl rfl (xf ttOk rfl rfl (xl ttOk rfl rfl (evl_call (nm := 21) (cf rfl) (c_BackTo n.book n.durable) (rs_of rfl) rfl rfl rfl (xm rfl rfl (xo (q_ext rfl) rfl (xo (q_ext rfl) rfl (evl_e (e_alloc ttOk rfl rfl rfl rfl) (xst ttOk rfl rfl (xs rfl rfl (nl (et (sq (ev_drawq [9] mo (rdk_take 0 rfl (by kernel_rfl) trivial (q_fieldAddr ttOk rfl) rfl (rdk_take 1 rfl (by kernel_rfl) trivial (q_fieldAddr ttOk rfl) rfl (rdk_take 2 rfl (by kernel_rfl) trivial (q_load ttOk rfl) rfl (rdk_take 3 rfl (by kernel_rfl) trivial (q_fieldAddr ttOk rfl) rfl (rdk_take 4 rfl (by kernel_rfl) trivial (q_load ttOk rfl) rfl (rdk_take 5 rfl (by kernel_rfl) trivial (q_load ttOk rfl) rfl (rdk_take 6 rfl (by kernel_rfl) trivial (q_move rfl) rfl (rdk_one 7 (by kernel_rfl) (rdo_call (nm := 31) rfl trivial (cf rfl) (c_PartOf (backF n.book n.durable).1 x 3 (back_len (book_len hb))) (rs_of rfl) rfl rfl rfl (rdk_take 8 rfl (by kernel_rfl) trivial (q_build ttOk rfl) rfl (rdk_one 9 (by kernel_rfl) (rdo_brk rfl rfl trivial (e_store ttOk rfl) (rdb_endq (by kernel_rfl) (et (ev_ret (ret_pureN ttOk rfl rfl ?_))))))))))))))))))))))))))))))))))
     first
     | (rw [fd_no1 (by assumption)]; simp [RpLe, L2, RcLe]; done)
     | (rw [fd_no2 (by assumption)]; simp [RpLe, L2, RcLe]; done)
     | (rw [fd_yes (by assumption) (by assumption), feed_part (by assumption)]; simp [RpLe, L2, RcLe]; done)
theorem e_feed (x y : Int) (l : List Entry) : Pure Tryz.prog 42 [many ([iC x, iC y, entries l]), many ([iC x, iC y, entries l])] (bR true) := by
 refine pure_intro (N := 21) Tryz.func42 rfl rfl rfl rfl (fun H w => ?_)
 refine sq (rg (evl_e (e_box rfl rfl rfl rfl) (evl_e (e_box rfl rfl rfl rfl) (xs rfl rfl (nl (et (sq (sq (rg (xf ttOk rfl rfl (xl ttOk rfl rfl (xf ttOk rfl rfl (xl ttOk rfl rfl (xb ttOk rfl rfl (nl (et (ev_cond rfl (fun h1 => ?_) (fun h1 => ?_))))))))))))))))))
 · try have d1 := of_decide_eq_true h1
   refine sq (rg (xs rfl rfl (nl (et (ev_ret (evr_then (ret_pure' ttOk rfl rfl (congrArg bR (?_ : _ = _)))))))))
   first | rfl | (exfalso; simp_all; done) | (exfalso; omega)
 · try have d1 := of_decide_eq_false h1
   refine ev_skip (et (sq (sq (rg (xf ttOk rfl rfl (xl ttOk rfl rfl (xf ttOk rfl rfl (xl ttOk rfl rfl (xb ttOk rfl rfl (nl (et (ev_cond rfl (fun h2 => ?_) (fun h2 => ?_)))))))))))))
   · try have d2 := of_decide_eq_true h2
     refine sq (rg (xs rfl rfl (nl (et (ev_ret (evr_then (ret_pure' ttOk rfl rfl (congrArg bR (?_ : _ = _)))))))))
     first | rfl | (exfalso; simp_all; done) | (exfalso; omega)
   · try have d2 := of_decide_eq_false h2
     refine ev_skip (et (sq (sq (rg (xf ttOk rfl rfl (xl ttOk rfl rfl (xf ttOk rfl rfl (xl ttOk rfl rfl (evl_call (nm := 19) (cf rfl) (e_entries _) (rs_of rfl) rfl rfl rfl (xo (q_not rfl) rfl (nl (et (ev_cond_n rfl (fun h3 => ?_) (fun h3 => ?_))))))))))))))
     · try have d3 := of_decide_eq_false h3
       refine sq (rg (xs rfl rfl (nl (et (ev_ret (evr_then (ret_pure' ttOk rfl rfl (congrArg bR (?_ : _ = _)))))))))
       first | rfl | (exfalso; simp_all; done) | (exfalso; omega)
     · try have d3 := of_decide_eq_true h3
       refine ev_skip (et (sq (rg (xs rfl rfl (nl (et (ev_ret (ret_pure' ttOk rfl rfl (congrArg bR (?_ : _ = _))))))))))
       first | rfl | (exfalso; simp_all; done) | (exfalso; omega)
theorem m_feed (ty : Nat) (x y : Int) (l : List Entry) (q : Int) (h : 0 ≤ q ∧ q + (9 * l.length : Nat) ≤ 1099511627776) : Marks Tryz.prog 43 (true, [.v (.int .i64 x), .v (.int .i64 y), .s ty 9 (l.map entryC)]) (true, [.v (.int .i64 x), .v (.int .i64 y), .s ty 9 (mk9 q l.length)]) q (q + (9 * l.length : Nat)) := by
 refine marks_intro (N := 10) Tryz.func43 rfl rfl rfl rfl (fun w v F => ?_)
 refine sq (rg (evl_e (e_box rfl rfl rfl rfl) (xs rfl rfl (nl (et (sq (rg (xf ttOk rfl rfl (xl ttOk rfl rfl (xm rfl rfl (evl_mark (cf rfl) rfl rfl rfl (m_entries _ _ _ (by omega)) rfl rfl rfl (xs rfl rfl (nl (et (sq (rg (xm rfl rfl (xs rfl rfl (nl (et (ev_ret (ret_mark ttOk rfl rfl rfl ?_))))))))))))))))))))))
 exact ⟨rfl, by omega⟩
theorem h_feed (m : Nat) (x1 x2 q q2 : Int) (hq : q2 = q) (h : 0 ≤ q ∧ q + (9 * m : Nat) ≤ 2199023255552) : Pure Tryz.prog 44 [many [iC x1, iC x2, .s 9 (mk9 q m)], one (iC q2)] (iR (q + (9 * m : Nat))) := by
 refine pure_intro (N := 12) Tryz.func44 rfl rfl rfl rfl (fun H w => ?_)
 refine sq (rg (evl_e (e_box rfl rfl rfl rfl) (xs rfl rfl (nl (et (sq (rg (xf ttOk rfl rfl (xl ttOk rfl rfl (xm rfl rfl (evl_call (nm := 8) (cf rfl) (h_entries _ _ _ (by omega) (by omega)) (rs_of rfl) rfl rfl rfl (xs rfl rfl (nl (et (sq (sq (rg (xm rfl rfl (xb ttOk rfl rfl (nl (et (ev_cond rfl (fun h1 => ?_) (fun h1 => ?_)))))))))))))))))))))))
 · have d1 := of_decide_eq_true h1
   refine sq (rg (xs rfl rfl (nl (et (ev_ret (evr_then (ret_pure' ttOk rfl rfl (congrArg iR (?_ : _ = _)))))))))
   first | omega | rfl
 · have d1 := of_decide_eq_false h1
   refine ev_skip (et (sq (rg (xm rfl rfl (xs rfl rfl (nl (et (ev_ret (ret_pure' ttOk rfl rfl (congrArg iR (?_ : _ = _)))))))))))
   first | omega | rfl
theorem L_FeedFrom (n : LogN) (x : Int) : Pure Tryz.prog 7 [many (logC n), one (iC x)] (bR true) := by
 refine pure_intro (N := 74) Tryz.func7 rfl rfl rfl rfl (fun H w => ?_)
 refine sq (rg (evl_e (e_box rfl rfl rfl rfl) (xs rfl rfl (nl (et (sq (rg (xs rfl rfl (nl (et (sq (rg (xl ttOk rfl rfl (xm rfl rfl (evl_call (nm := 15) (cf rfl) (z_log n _ (by omega)) (rs_of rfl) rfl rfl rfl (xs rfl rfl (nl (et (sq (sq (rg (xm rfl rfl (xb ttOk rfl rfl (nl (et (ev_cond rfl (fun h1 => ?_) (fun h1 => ?_)))))))))))))))))))))))))))
 · have d1 := of_decide_eq_true h1
   refine sq (rg (xs rfl rfl (nl (et (ev_ret (evr_then (ret_pure' ttOk rfl rfl ?_)))))))
   rfl
 · have d1 := of_decide_eq_false h1
   have e1 := szB_pos d1
   have hT : logSz n ≤ 1048576 := by omega
   have hsm := smL_of hT
   have hq7 := q_at (q := 1) (n := n) (by omega) hsm
   have hhl := feed_len n x
   refine ev_skip (et (sq (rg (xl ttOk rfl rfl (evl_call (nm := 19) (cf rfl) (t_log n (by assumption)) (rs_of rfl) rfl rfl rfl (xm rfl rfl (evl_call (nm := 21) (cf rfl) (c_FeedFrom n x) (rs_of rfl) rfl rfl rfl (evl_e (e_alloc ttOk rfl rfl rfl rfl) (xst ttOk rfl rfl (nl (et (sq (rg (xl ttOk rfl rfl (evl_call (nm := 23) (cf rfl) (t_log n (by assumption)) (rs_of rfl) rfl rfl rfl (evl_e (e_alloc ttOk rfl rfl rfl rfl) (xst ttOk rfl rfl (nl (et (sq (rg (xl ttOk rfl rfl (xm rfl rfl (evl_call (nm := 26) (cf rfl) (c_FeedFrom' n x) (rs_of rfl) rfl rfl rfl (evl_e (e_alloc ttOk rfl rfl rfl rfl) (xst ttOk rfl rfl (nl (et (sq (sq (rg (xl ttOk rfl rfl (xl ttOk rfl rfl (evl_call (nm := 29) (cf rfl) (e_feed (feedF n x).1 (feedF n x).2.1 (feedF n x).2.2) (rs_of rfl) rfl rfl rfl (xo (q_notL rfl) rfl (nl (et (ev_cond_kf rfl rfl (ev_skip (et (ev_pr [1, 2, 4, 6, 7, 8, 9, 10, 11, 12, 31, 32, 33, 34, 35, 36, 37, 38, 39, 40, 41, 42, 43, 44, 45, 46, 47, 48, 49, 50, 51, 52, 53, 54, 55, 56, 57, 58, 59, 60, 61, 62, 63, 64, 65, 66, 67, 68, 69, 70, 71, 72, 73] rfl (sq (sq (ev_drawq [] mo (rdk_take 0 rfl (by kernel_rfl) trivial (q_load ttOk rfl) rfl (rdk_take 1 rfl (by kernel_rfl) trivial (q_load ttOk rfl) rfl (rdk_one 2 (by kernel_rfl) (rdo_call (nm := 33) rfl trivial (cf rfl) (t_log n (by assumption)) (rs_of rfl) rfl rfl rfl (rdk_one 3 (by kernel_rfl) (rdo_call (nm := 34) rfl trivial (cf rfl) (e_log n) (rs_of rfl) rfl rfl rfl ?_))))))))))))))))))))))))))))))))))))))))))))))))))
   refine rdk_take 4 rfl (by kernel_rfl) trivial (q_notL rfl) rfl (rdk_endq (by kernel_rfl) (et (ev_cond_kf rfl rfl (ev_skip (et (sq (rg (xs rfl rfl (nl (et (sq (rg (xl ttOk rfl rfl (xm rfl rfl (evl_mark (cf rfl) rfl rfl rfl (m_log _ _ _ _ _ _ _ _ _ n 1 (by omega) hsm) rfl rfl rfl (xs rfl rfl (nl (et (sq (sq (rg (xm rfl rfl (xb ttOk rfl rfl (xm rfl rfl (go (decide_eq_false (by omega)) rfl rfl (q_load ttOk rfl) rfl (go (decide_eq_false (by omega)) rfl rfl (q_load ttOk rfl) rfl (evl_callg rfl rfl (decide_eq_false (by omega)) (nm := 44) (cf rfl) (e_feed (feedF n x).1 (feedF n x).2.1 (feedF n x).2.2) (rs_of rfl) rfl rfl rfl (go (decide_eq_false (by omega)) rfl rfl (q_notL rfl) rfl (xo (q_pick_f rfl (decide_eq_false (by omega)) rfl) rfl (nl (et (ev_cond_kf rfl rfl (ev_skip (et (sq (rg (xs rfl rfl (nl (et (sq (rg (xl ttOk rfl rfl (xm rfl rfl (evl_mark (cf rfl) rfl rfl rfl (m_feed _ (feedF n x).1 (feedF n x).2.1 (feedF n x).2.2 1 (by omega)) rfl rfl rfl (xs rfl rfl (nl (et (sq (rg (xs rfl rfl ?_))))))))))))))))))))))))))))))))))))))))))))))))))
   refine nl (et (sq (rg (xl ttOk rfl rfl (xm rfl rfl (evl_call (nm := 52) (cf rfl) (h_feed (feedF n x).2.2.length _ _ 1 _ rfl (by omega)) (rs_of rfl) rfl rfl rfl (xs rfl rfl (nl (et (ev_pr [1, 2, 4, 6, 8, 10, 11, 12, 53, 54, 55, 56, 57, 58, 59, 60, 61, 62, 63, 64, 65, 66, 67, 68, 69, 70, 71, 72, 73] rfl (sq (sq (rg (xm rfl rfl (xb ttOk rfl rfl (nl (et (ev_cond_kf rfl (decide_eq_false (by omega)) (ev_skip (et (sq (sq (rg (xm rfl rfl (xm rfl rfl (xb ttOk rfl rfl (nl (et (ev_cond_kf rfl (decide_eq_false (by omega)) (ev_skip (et (sq (rg (xl ttOk rfl rfl (evl_call (nm := 59) (cf rfl) (t_log n (by assumption)) (rs_of rfl) rfl rfl rfl (xm rfl rfl (evl_call (nm := 61) (cf rfl) (c_FeedFrom' n x) (rs_of rfl) rfl rfl rfl (evl_e (e_alloc ttOk rfl rfl rfl rfl) (xst ttOk rfl rfl (nl (et (sq (sq (rg (xl ttOk rfl rfl (xl ttOk rfl rfl (evl_call (nm := 64) (cf rfl) (e_feed (feedF n x).1 (feedF n x).2.1 (feedF n x).2.2) (rs_of rfl) rfl rfl rfl (xo (q_notL rfl) rfl (nl (et ?_))))))))))))))))))))))))))))))))))))))))))))))))))
   refine ev_cond_kf rfl rfl (ev_skip (et (sq (rg (xs rfl rfl (nl (et (sq (rg (xl ttOk rfl rfl (xm rfl rfl (evl_call (nm := 68) (cf rfl) (h_feed (feedF n x).2.2.length _ _ 1 _ rfl (by omega)) (rs_of rfl) rfl rfl rfl (xs rfl rfl (nl (et (sq (sq (rg (xm rfl rfl (xb ttOk rfl rfl (nl (et (ev_cond_kf rfl (decide_eq_false (by omega)) (ev_skip (et (sq (sq (rg (xm rfl rfl (xm rfl rfl (xb ttOk rfl rfl (nl (et (ev_cond_kf rfl (decide_eq_false (by omega)) (ev_skip (et (sq (rg (xs rfl rfl (nl (et (ev_ret (ret_pure' ttOk rfl rfl ?_)))))))))))))))))))))))))))))))))))))))))))
   rfl

end Go.Proofs.YtpbhcdgdabfhfaaGreat
