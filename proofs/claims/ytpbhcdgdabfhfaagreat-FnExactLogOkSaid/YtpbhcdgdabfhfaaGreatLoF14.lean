/- Walks of functions of the program, printed by a program of the prover. -/
import Derived.Test.YtpbhcdgdabfhfaaGreatLoF13
namespace Go.Proofs.YtpbhcdgdabfhfaaGreat
open Go.ChangeShapes Go.WideShapes Go.ChangeAt Go.RowKit
set_option linter.unusedVariables false
set_option linter.unusedSimpArgs false
set_option maxHeartbeats 1000000
set_option maxRecDepth 100000
attribute [local irreducible] EvL Ev EvE Quiet Eff Pure RDk RDb RDo
theorem t_ints (l : List Int) (h : l.length ≤ 1048576) : Pure Tryz.prog 46 [one (ints l)] [one' (RC.s 2 1 (l.map (fun x => [iC x])))] := by
 refine pure_intro (N := 22) Tryz.func46 rfl rfl rfl rfl (fun H w => ?_)
 refine ev_lenm (t := 0) rfl (fun hL => ?_)
 refine sq (rg (xs rfl rfl (nl (et (sq (rg (xm rfl rfl (xo (q_len_map ttOk rfl rfl) rfl (evl_e (e_make ttOk rfl rfl rfl rfl rfl rfl rfl (by omega) rfl rfl) (xs rfl rfl (nl (et (sq (sq (rg (xs rfl rfl (nl (et (ev_blk (ev_loop (fun k : Nat => (⟨[(4, iV k), (0, cV (ints l)), (3, .p false [.rt 7])], [], [(7, 2, 1, mixR (fun x => [iC x]) [iC 0] l k)], []⟩ : St)) (fun k => k ≤ l.length) (fun k => l.length - k) 0 [] (by simp) ⟨by (repeat first | exact trivial | refine ⟨rfl, ?_⟩), by (repeat first | exact trivial | refine ⟨rfl, ?_⟩), ⟨⟨_, rfl, by exact mixR_zero _ _ _⟩, trivial⟩, by (repeat first | exact trivial | refine ⟨⟨_, rfl, rfl⟩, ?_⟩), rfl⟩ ?_))))))))))))))))))))
 intro k hp
 have p0 := hp
 show Ev _ _ _ _ (⟨[(4, iV k), (0, cV (ints l)), (3, .p false [.rt 7])], [], [(7, 2, 1, mixR (fun x => [iC x]) [iC 0] l k)], []⟩ : St)
 refine sq (sq (rg (xm rfl rfl (xm rfl rfl (xo (q_len_map ttOk rfl rfl) rfl (xb ttOk rfl rfl (nl (et (ev_cond rfl (fun h1 => ?_) (fun h1 => ?_))))))))))
 · have d1 := of_decide_eq_true h1
   refine ev_skip (et (sq (ev_blk (rg (xm rfl rfl (xm rfl rfl (xm rfl rfl (xm rfl rfl (xo (q_ix_map ttOk rfl rfl rfl rfl (by omega)) rfl (xl ttOk rfl rfl (xo (q_ix_rt (m := k) ttOk rfl rfl rfl rfl rfl rfl (by rw [mixR_len (by omega)]; omega)) rfl (evl_e (e_st_pr ttOk rfl rfl rfl rfl rfl rfl rfl (mixR_at (by omega)) rfl (mixR_set (f := fun x => [iC x]) (l := l) (by omega)) rfl rfl rfl) (nl (eb (et (rg (xm rfl rfl (xa rfl rfl rfl (by omega) rfl (xs rfl rfl (nl (eve_round (k + 1) [] ?hp ⟨by (repeat first | exact trivial | refine ⟨rfl, ?_⟩), by (repeat first | exact trivial | refine ⟨rfl, ?_⟩), ⟨⟨_, rfl, by rfl⟩, trivial⟩, by (repeat first | exact trivial | refine ⟨⟨_, rfl, rfl⟩, ?_⟩), rfl⟩)))))))))))))))))))))
   case hp => exact ⟨by omega, by omega⟩
 · have d1 := of_decide_eq_false h1
   refine ev_exit (evx_then (evx_then (evx_hit (et (sq (rg (xm rfl rfl (xs rfl rfl (nl (et (ev_ret (ret_pure' ttOk rfl rfl ?_))))))))))))
   rw [mixR_all (by omega)]
theorem t_mark (m : Mark) : Pure Tryz.prog 150 [many (markC m)] [many' ([.v (.int .i64 m.client), .v (.int .i64 m.seq), .v (.int .i64 m.index)])] := by
 refine pure_intro (N := 14) Tryz.func150 rfl rfl rfl rfl (fun H w => ?_)
 refine sq (rg (evl_e (e_box rfl rfl rfl rfl) (evl_e (e_alloc ttOk rfl rfl rfl rfl) (nl (et (sq (rg (evl_e (e_alloc ttOk rfl rfl rfl rfl) (nl (et (sq (rg (xf ttOk rfl rfl (xl ttOk rfl rfl (xf ttOk rfl rfl (xst ttOk rfl rfl (nl (et (sq (rg (xf ttOk rfl rfl (xl ttOk rfl rfl (xf ttOk rfl rfl (xst ttOk rfl rfl (nl (et (sq (rg (xf ttOk rfl rfl (xl ttOk rfl rfl (xf ttOk rfl rfl (xst ttOk rfl rfl (nl (et (sq (rg (xl ttOk rfl rfl (xst ttOk rfl rfl (nl (et (ev_ret (ret_pure' ttOk rfl rfl ?_))))))))))))))))))))))))))))))))))))))))))
 rfl
theorem t_marks (l : List Mark) (h : l.length ≤ 1048576) : Pure Tryz.prog 82 [one (marks l)] [one' (RC.s 156 3 (l.map (markC)))] := by
 refine pure_intro (N := 23) Tryz.func82 rfl rfl rfl rfl (fun H w => ?_)
 refine ev_lenm (t := 0) rfl (fun hL => ?_)
 refine sq (rg (xs rfl rfl (nl (et (sq (rg (xm rfl rfl (xo (q_len_map ttOk rfl rfl) rfl (evl_e (e_make ttOk rfl rfl rfl rfl rfl rfl rfl (by omega) rfl rfl) (xs rfl rfl (nl (et (sq (sq (rg (xs rfl rfl (nl (et (ev_blk (ev_loop (fun k : Nat => (⟨[(4, iV k), (0, cV (marks l)), (3, .p false [.rt 7])], [], [(7, 156, 3, mixR (markC) [iC 0, iC 0, iC 0] l k)], []⟩ : St)) (fun k => k ≤ l.length) (fun k => l.length - k) 0 [] (by simp) ⟨by (repeat first | exact trivial | refine ⟨rfl, ?_⟩), by (repeat first | exact trivial | refine ⟨rfl, ?_⟩), ⟨⟨_, rfl, by exact mixR_zero _ _ _⟩, trivial⟩, by (repeat first | exact trivial | refine ⟨⟨_, rfl, rfl⟩, ?_⟩), rfl⟩ ?_))))))))))))))))))))
 intro k hp
 have p0 := hp
 show Ev _ _ _ _ (⟨[(4, iV k), (0, cV (marks l)), (3, .p false [.rt 7])], [], [(7, 156, 3, mixR (markC) [iC 0, iC 0, iC 0] l k)], []⟩ : St)
 refine sq (sq (rg (xm rfl rfl (xm rfl rfl (xo (q_len_map ttOk rfl rfl) rfl (xb ttOk rfl rfl (nl (et (ev_cond rfl (fun h1 => ?_) (fun h1 => ?_))))))))))
 · have d1 := of_decide_eq_true h1
   refine ev_skip (et (sq (ev_blk (rg (xm rfl rfl (xm rfl rfl (xm rfl rfl (xm rfl rfl (xo (q_ix_map ttOk rfl rfl rfl rfl (by omega)) rfl (xl ttOk rfl rfl (evl_call (nm := 20) (cf rfl) (t_mark (l[k]'(by omega))) (rs_of rfl) rfl rfl rfl (xo (q_ix_rt (m := k) ttOk rfl rfl rfl rfl rfl rfl (by rw [mixR_len (by omega)]; omega)) rfl (evl_e (e_st_pr ttOk rfl rfl rfl rfl rfl rfl rfl (mixR_at (by omega)) rfl (mixR_set (f := markC) (l := l) (by omega)) rfl rfl rfl) (nl (eb (et (rg (xm rfl rfl (xa rfl rfl rfl (by omega) rfl (xs rfl rfl (nl (eve_round (k + 1) [] ?hp ⟨by (repeat first | exact trivial | refine ⟨rfl, ?_⟩), by (repeat first | exact trivial | refine ⟨rfl, ?_⟩), ⟨⟨_, rfl, by rfl⟩, trivial⟩, by (repeat first | exact trivial | refine ⟨⟨_, rfl, rfl⟩, ?_⟩), rfl⟩))))))))))))))))))))))
   case hp => exact ⟨by omega, by omega⟩
 · have d1 := of_decide_eq_false h1
   refine ev_exit (evx_then (evx_then (evx_hit (et (sq (rg (xm rfl rfl (xs rfl rfl (nl (et (ev_ret (ret_pure' ttOk rfl rfl ?_))))))))))))
   rw [mixR_all (by omega)]
theorem t_ack (m : Ack) : Pure Tryz.prog 151 [many (ackC m)] [many' ([.v (.int .i64 m.client), .v (.int .i64 m.seq), .v (.int .i64 m.index), .v (.int .i64 m.last)])] := by
 refine pure_intro (N := 17) Tryz.func151 rfl rfl rfl rfl (fun H w => ?_)
 refine sq (rg (evl_e (e_box rfl rfl rfl rfl) (evl_e (e_alloc ttOk rfl rfl rfl rfl) (nl (et (sq (rg (evl_e (e_alloc ttOk rfl rfl rfl rfl) (nl (et (sq (rg (xf ttOk rfl rfl (xl ttOk rfl rfl (xf ttOk rfl rfl (xst ttOk rfl rfl (nl (et (sq (rg (xf ttOk rfl rfl (xl ttOk rfl rfl (xf ttOk rfl rfl (xst ttOk rfl rfl (nl (et (sq (rg (xf ttOk rfl rfl (xl ttOk rfl rfl (xf ttOk rfl rfl (xst ttOk rfl rfl (nl (et (sq (rg (xf ttOk rfl rfl (xl ttOk rfl rfl (xf ttOk rfl rfl (xst ttOk rfl rfl (nl (et (sq (rg (xl ttOk rfl rfl (xst ttOk rfl rfl (nl (et (ev_ret (ret_pure' ttOk rfl rfl ?_))))))))))))))))))))))))))))))))))))))))))))))))))
 rfl
theorem t_acks (l : List Ack) (h : l.length ≤ 1048576) : Pure Tryz.prog 83 [one (acks l)] [one' (RC.s 114 4 (l.map (ackC)))] := by
 refine pure_intro (N := 23) Tryz.func83 rfl rfl rfl rfl (fun H w => ?_)
 refine ev_lenm (t := 0) rfl (fun hL => ?_)
 refine sq (rg (xs rfl rfl (nl (et (sq (rg (xm rfl rfl (xo (q_len_map ttOk rfl rfl) rfl (evl_e (e_make ttOk rfl rfl rfl rfl rfl rfl rfl (by omega) rfl rfl) (xs rfl rfl (nl (et (sq (sq (rg (xs rfl rfl (nl (et (ev_blk (ev_loop (fun k : Nat => (⟨[(4, iV k), (0, cV (acks l)), (3, .p false [.rt 7])], [], [(7, 114, 4, mixR (ackC) [iC 0, iC 0, iC 0, iC 0] l k)], []⟩ : St)) (fun k => k ≤ l.length) (fun k => l.length - k) 0 [] (by simp) ⟨by (repeat first | exact trivial | refine ⟨rfl, ?_⟩), by (repeat first | exact trivial | refine ⟨rfl, ?_⟩), ⟨⟨_, rfl, by exact mixR_zero _ _ _⟩, trivial⟩, by (repeat first | exact trivial | refine ⟨⟨_, rfl, rfl⟩, ?_⟩), rfl⟩ ?_))))))))))))))))))))
 intro k hp
 have p0 := hp
 show Ev _ _ _ _ (⟨[(4, iV k), (0, cV (acks l)), (3, .p false [.rt 7])], [], [(7, 114, 4, mixR (ackC) [iC 0, iC 0, iC 0, iC 0] l k)], []⟩ : St)
 refine sq (sq (rg (xm rfl rfl (xm rfl rfl (xo (q_len_map ttOk rfl rfl) rfl (xb ttOk rfl rfl (nl (et (ev_cond rfl (fun h1 => ?_) (fun h1 => ?_))))))))))
 · have d1 := of_decide_eq_true h1
   refine ev_skip (et (sq (ev_blk (rg (xm rfl rfl (xm rfl rfl (xm rfl rfl (xm rfl rfl (xo (q_ix_map ttOk rfl rfl rfl rfl (by omega)) rfl (xl ttOk rfl rfl (evl_call (nm := 20) (cf rfl) (t_ack (l[k]'(by omega))) (rs_of rfl) rfl rfl rfl (xo (q_ix_rt (m := k) ttOk rfl rfl rfl rfl rfl rfl (by rw [mixR_len (by omega)]; omega)) rfl (evl_e (e_st_pr ttOk rfl rfl rfl rfl rfl rfl rfl (mixR_at (by omega)) rfl (mixR_set (f := ackC) (l := l) (by omega)) rfl rfl rfl) (nl (eb (et (rg (xm rfl rfl (xa rfl rfl rfl (by omega) rfl (xs rfl rfl (nl (eve_round (k + 1) [] ?hp ⟨by (repeat first | exact trivial | refine ⟨rfl, ?_⟩), by (repeat first | exact trivial | refine ⟨rfl, ?_⟩), ⟨⟨_, rfl, by rfl⟩, trivial⟩, by (repeat first | exact trivial | refine ⟨⟨_, rfl, rfl⟩, ?_⟩), rfl⟩))))))))))))))))))))))
   case hp => exact ⟨by omega, by omega⟩
 · have d1 := of_decide_eq_false h1
   refine ev_exit (evx_then (evx_then (evx_hit (et (sq (rg (xm rfl rfl (xs rfl rfl (nl (et (ev_ret (ret_pure' ttOk rfl rfl ?_))))))))))))
   rw [mixR_all (by omega)]
theorem t_rows (K : List (List Int)) (h : rowsN K ≤ 1048576) : Pure Tryz.prog 170 [one (rows K)] [one' (RC.s 80 1 (K.map (fun r => [ints r])))] := by
 refine pure_intro (N := 23) Tryz.func170 rfl rfl rfl rfl (fun H w => ?_)
 refine ev_lenm (t := 0) rfl (fun hL => ?_)
 unfold rowsN at h
 refine sq (rg (xs rfl rfl (nl (et (sq (rg (xm rfl rfl (xo (q_len_map ttOk rfl rfl) rfl (evl_e (e_make ttOk rfl rfl rfl rfl rfl rfl rfl (by omega) rfl rfl) (xs rfl rfl (nl (et (sq (sq (rg (xs rfl rfl (nl (et (ev_blk (ev_loop (fun k : Nat => (⟨[(4, iV k), (0, cV (rows K)), (3, .p false [.rt 7])], [], [(7, 80, 1, mixR (fun r => [ints r]) [.nil] K k)], []⟩ : St)) (fun k => k ≤ K.length) (fun k => K.length - k) 0 [] (by simp) ⟨by (repeat first | exact trivial | refine ⟨rfl, ?_⟩), by (repeat first | exact trivial | refine ⟨rfl, ?_⟩), ⟨⟨_, rfl, by exact mixR_zero _ _ _⟩, trivial⟩, by (repeat first | exact trivial | refine ⟨⟨_, rfl, rfl⟩, ?_⟩), rfl⟩ ?_))))))))))))))))))))
 intro k hp
 have p0 := hp
 show Ev _ _ _ _ (⟨[(4, iV k), (0, cV (rows K)), (3, .p false [.rt 7])], [], [(7, 80, 1, mixR (fun r => [ints r]) [.nil] K k)], []⟩ : St)
 refine sq (sq (rg (xm rfl rfl (xm rfl rfl (xo (q_len_map ttOk rfl rfl) rfl (xb ttOk rfl rfl (nl (et (ev_cond rfl (fun h1 => ?_) (fun h1 => ?_))))))))))
 · have d1 := of_decide_eq_true h1
   refine ev_skip (et (sq (ev_blk ?_)))
   have s1 := sumN_mem (f := List.length) (l := K) (k := k) (by omega)
   refine rg (xm rfl rfl (xm rfl rfl (xm rfl rfl (xm rfl rfl (xo (q_ix_map ttOk rfl rfl rfl rfl (by omega)) rfl (xl ttOk rfl rfl (evl_call (nm := 20) (cf rfl) (t_ints (K[k]'(by omega)) (by omega)) (rs_of rfl) rfl rfl rfl (xo (q_ix_rt (m := k) ttOk rfl rfl rfl rfl rfl rfl (by rw [mixR_len (by omega)]; omega)) rfl (evl_e (e_st_pr ttOk rfl rfl rfl rfl rfl rfl rfl (mixR_at (by omega)) rfl (mixR_set (f := fun r => [ints r]) (l := K) (by omega)) rfl rfl rfl) (nl (eb (et (rg (xm rfl rfl (xa rfl rfl rfl (by omega) rfl (xs rfl rfl (nl (eve_round (k + 1) [] ?hp ⟨by (repeat first | exact trivial | refine ⟨rfl, ?_⟩), by (repeat first | exact trivial | refine ⟨rfl, ?_⟩), ⟨⟨_, rfl, by rfl⟩, trivial⟩, by (repeat first | exact trivial | refine ⟨⟨_, rfl, rfl⟩, ?_⟩), rfl⟩))))))))))))))))))
   case hp => exact ⟨by omega, by omega⟩
 · have d1 := of_decide_eq_false h1
   refine ev_exit (evx_then (evx_then (evx_hit (et (sq (rg (xm rfl rfl (xs rfl rfl (nl (et (ev_ret (ret_pure' ttOk rfl rfl ?_))))))))))))
   rw [mixR_all (by omega)]
theorem t_write (x : Int × List Int) (h : x.2.length ≤ 1048576) : Pure Tryz.prog 225 [many ([iC x.1, ints x.2])] [many' ([.v (.int .i64 x.1), intsR 2 x.2])] := by
 refine pure_intro (N := 12) Tryz.func225 rfl rfl rfl rfl (fun H w => ?_)
 refine sq (rg (evl_e (e_box rfl rfl rfl rfl) (evl_e (e_alloc ttOk rfl rfl rfl rfl) (nl (et (sq (rg (evl_e (e_alloc ttOk rfl rfl rfl rfl) (nl (et (sq (rg (xf ttOk rfl rfl (xl ttOk rfl rfl (xf ttOk rfl rfl (xst ttOk rfl rfl (nl (et (sq (rg (xf ttOk rfl rfl (xl ttOk rfl rfl (evl_call (nm := 9) (cf rfl) (t_ints _ (by omega)) (rs_of rfl) rfl rfl rfl (xf ttOk rfl rfl (xst ttOk rfl rfl (nl (et (sq (rg (xl ttOk rfl rfl (xst ttOk rfl rfl (nl (et (ev_ret (ret_pure' ttOk rfl rfl ?_)))))))))))))))))))))))))))))))))))
 rfl
theorem t_writes (W : List (Int × List Int)) (h : writesN W ≤ 1048576) : Pure Tryz.prog 171 [one (writes W)] [one' (RC.s 214 2 (W.map (fun x => [iC x.1, ints x.2])))] := by
 refine pure_intro (N := 23) Tryz.func171 rfl rfl rfl rfl (fun H w => ?_)
 refine ev_lenm (t := 0) rfl (fun hL => ?_)
 unfold writesN at h
 refine sq (rg (xs rfl rfl (nl (et (sq (rg (xm rfl rfl (xo (q_len_map ttOk rfl rfl) rfl (evl_e (e_make ttOk rfl rfl rfl rfl rfl rfl rfl (by omega) rfl rfl) (xs rfl rfl (nl (et (sq (sq (rg (xs rfl rfl (nl (et (ev_blk (ev_loop (fun k : Nat => (⟨[(4, iV k), (0, cV (writes W)), (3, .p false [.rt 7])], [], [(7, 214, 2, mixR (fun x => [iC x.1, ints x.2]) [iC 0, .nil] W k)], []⟩ : St)) (fun k => k ≤ W.length) (fun k => W.length - k) 0 [] (by simp) ⟨by (repeat first | exact trivial | refine ⟨rfl, ?_⟩), by (repeat first | exact trivial | refine ⟨rfl, ?_⟩), ⟨⟨_, rfl, by exact mixR_zero _ _ _⟩, trivial⟩, by (repeat first | exact trivial | refine ⟨⟨_, rfl, rfl⟩, ?_⟩), rfl⟩ ?_))))))))))))))))))))
 intro k hp
 have p0 := hp
 show Ev _ _ _ _ (⟨[(4, iV k), (0, cV (writes W)), (3, .p false [.rt 7])], [], [(7, 214, 2, mixR (fun x => [iC x.1, ints x.2]) [iC 0, .nil] W k)], []⟩ : St)
 refine sq (sq (rg (xm rfl rfl (xm rfl rfl (xo (q_len_map ttOk rfl rfl) rfl (xb ttOk rfl rfl (nl (et (ev_cond rfl (fun h1 => ?_) (fun h1 => ?_))))))))))
 · have d1 := of_decide_eq_true h1
   refine ev_skip (et (sq (ev_blk ?_)))
   have s1 := sumN_mem (f := fun x => x.2.length) (l := W) (k := k) (by omega)
   refine rg (xm rfl rfl (xm rfl rfl (xm rfl rfl (xm rfl rfl (xo (q_ix_map ttOk rfl rfl rfl rfl (by omega)) rfl (xl ttOk rfl rfl (evl_call (nm := 20) (cf rfl) (t_write (W[k]'(by omega)) (by omega)) (rs_of rfl) rfl rfl rfl (xo (q_ix_rt (m := k) ttOk rfl rfl rfl rfl rfl rfl (by rw [mixR_len (by omega)]; omega)) rfl (evl_e (e_st_pr ttOk rfl rfl rfl rfl rfl rfl rfl (mixR_at (by omega)) rfl (mixR_set (f := fun x => [iC x.1, ints x.2]) (l := W) (by omega)) rfl rfl rfl) (nl (eb (et (rg (xm rfl rfl (xa rfl rfl rfl (by omega) rfl (xs rfl rfl (nl (eve_round (k + 1) [] ?hp ⟨by (repeat first | exact trivial | refine ⟨rfl, ?_⟩), by (repeat first | exact trivial | refine ⟨rfl, ?_⟩), ⟨⟨_, rfl, by rfl⟩, trivial⟩, by (repeat first | exact trivial | refine ⟨⟨_, rfl, rfl⟩, ?_⟩), rfl⟩))))))))))))))))))
   case hp => exact ⟨by omega, by omega⟩
 · have d1 := of_decide_eq_false h1
   refine ev_exit (evx_then (evx_then (evx_hit (et (sq (rg (xm rfl rfl (xs rfl rfl (nl (et (ev_ret (ret_pure' ttOk rfl rfl ?_))))))))))))
   rw [mixR_all (by omega)]
theorem t_disk (d : Disk) (h : diskN d ≤ 1048576) : Pure Tryz.prog 99 [many (diskC d)] [many' (diskR d)] := by
 refine pure_intro (N := 13) Tryz.func99 rfl rfl rfl rfl (fun H w => ?_)
 unfold diskN at h
 refine sq (rg (evl_e (e_box rfl rfl rfl rfl) (evl_e (e_alloc ttOk rfl rfl rfl rfl) (nl (et (sq (rg (evl_e (e_alloc ttOk rfl rfl rfl rfl) (nl (et (sq (rg (xf ttOk rfl rfl (xl ttOk rfl rfl (evl_call (nm := 6) (cf rfl) (t_rows _ (by omega)) (rs_of rfl) rfl rfl rfl (xf ttOk rfl rfl (xst ttOk rfl rfl (nl (et (sq (rg (xf ttOk rfl rfl (xl ttOk rfl rfl (evl_call (nm := 10) (cf rfl) (t_writes _ (by omega)) (rs_of rfl) rfl rfl rfl (xf ttOk rfl rfl (xst ttOk rfl rfl (nl (et (sq (rg (xl ttOk rfl rfl (xst ttOk rfl rfl (nl (et (ev_ret (ret_pure' ttOk rfl rfl ?_))))))))))))))))))))))))))))))))))))
 rfl
theorem t_two (t : Two) (h : twoN t ≤ 1048576) : Pure Tryz.prog 25 [many (twoC t)] [many' (twoR t)] := by
 refine pure_intro (N := 13) Tryz.func25 rfl rfl rfl rfl (fun H w => ?_)
 unfold twoN at h
 refine sq (rg (evl_e (e_box rfl rfl rfl rfl) (evl_e (e_alloc ttOk rfl rfl rfl rfl) (nl (et (sq (rg (evl_e (e_alloc ttOk rfl rfl rfl rfl) (nl (et (sq (rg (xf ttOk rfl rfl (xl ttOk rfl rfl ?_))))))))))))))
 first | refine evl_call (nm := 6) (cf rfl) (t_disk t.a (by omega)) (rs_of rfl) rfl rfl rfl ?_ | refine evl_call (nm := 6) (cf rfl) (t_disk t.b (by omega)) (rs_of rfl) rfl rfl rfl ?_
 refine xf ttOk rfl rfl (xst ttOk rfl rfl (nl (et (sq (rg (xf ttOk rfl rfl (xl ttOk rfl rfl ?_)))))))
 first | refine evl_call (nm := 10) (cf rfl) (t_disk t.a (by omega)) (rs_of rfl) rfl rfl rfl ?_ | refine evl_call (nm := 10) (cf rfl) (t_disk t.b (by omega)) (rs_of rfl) rfl rfl rfl ?_
 refine xf ttOk rfl rfl (xst ttOk rfl rfl (nl (et (sq (rg (xl ttOk rfl rfl (xst ttOk rfl rfl (nl (et (ev_ret (ret_pure' ttOk rfl rfl ?_)))))))))))
 rfl
theorem t_head (x : Head) (h : x.seen.length ≤ 1048576) : Pure Tryz.prog 26 [many (headC x)] [many' (headR x)] := by
 refine pure_intro (N := 18) Tryz.func26 rfl rfl rfl rfl (fun H w => ?_)
 refine sq (rg (evl_e (e_box rfl rfl rfl rfl) (evl_e (e_alloc ttOk rfl rfl rfl rfl) (nl (et (sq (rg (evl_e (e_alloc ttOk rfl rfl rfl rfl) (nl (et (sq (rg (xf ttOk rfl rfl (xl ttOk rfl rfl (xf ttOk rfl rfl (xst ttOk rfl rfl (nl (et (sq (rg (xf ttOk rfl rfl (xl ttOk rfl rfl (xf ttOk rfl rfl (xst ttOk rfl rfl (nl (et (sq (rg (xf ttOk rfl rfl (xl ttOk rfl rfl (xf ttOk rfl rfl (xst ttOk rfl rfl (nl (et (sq (rg (xf ttOk rfl rfl (xl ttOk rfl rfl (evl_call (nm := 15) (cf rfl) (t_marks _ (by omega)) (rs_of rfl) rfl rfl rfl (xf ttOk rfl rfl (xst ttOk rfl rfl (nl (et (sq (rg (xl ttOk rfl rfl (xst ttOk rfl rfl (nl (et (ev_ret ?_))))))))))))))))))))))))))))))))))))))))))))))))))
 refine ret_pure' ttOk rfl rfl ?_
 rfl

end Go.Proofs.YtpbhcdgdabfhfaaGreat
