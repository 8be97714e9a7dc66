/- Walks of functions of the program, printed by a program of the prover. -/
import Derived.Test.YtahkjonokeifmaaGreatRaF5
import Derived.Test.YtahkjonokeifmaaGreatRaVN
namespace Go.Proofs.YtahkjonokeifmaaGreat
open Go.ChangeShapes Go.WideShapes Go.ChangeAt Go.RowKit
set_option linter.unusedVariables false
set_option linter.unusedSimpArgs false
set_option maxHeartbeats 1000000
set_option maxRecDepth 100000
attribute [local irreducible] EvL Ev EvE Quiet Eff Pure RDk RDb RDo
theorem diskOk_sizes {d : Disk} (h : diskOk d = true) : d.kept.length ≤ 40 ∧ d.wait.length ≤ 60 ∧ 1 ≤ d.kept.length ∧ (∀ r ∈ d.kept, rowOk r = true) ∧ ∀ x ∈ d.wait, writeOk d x = true := by
 simp only [diskOk, Bool.and_eq_true, decide_eq_true_eq, List.all_eq_true] at h
 exact ⟨h.2.1, h.2.2.1, h.1, h.2.2.2.1, h.2.2.2.2⟩
theorem twoOk_both {t : Two} (h : twoOk t = true) : diskOk t.a = true ∧ diskOk t.b = true := by
 simp only [twoOk, Bool.and_eq_true] at h
 exact ⟨h.1, h.2.1⟩
theorem kept_len {d : Disk} (h : diskOk d = true) {k : Nat} (hk : k < d.kept.length) : d.kept[k].length ≤ 48 := (rowOk_nums ((diskOk_sizes h).2.2.2.1 _ (List.getElem_mem hk))).1
theorem wait_len {d : Disk} (h : diskOk d = true) {k : Nat} (hk : k < d.wait.length) : d.wait[k].2.length ≤ 48 := by
 have := (diskOk_sizes h).2.2.2.2 _ (List.getElem_mem hk)
 simp only [writeOk, Bool.and_eq_true] at this
 exact (rowOk_nums this.2).1
theorem map_next {α β : Type} {f : α → β} {l : List α} {k : Nat} (hk : k < l.length) : (l.take k).map f ++ [f l[k]] = (l.take (k + 1)).map f := by
 rw [List.take_succ_eq_append_getElem hk, List.map_append]; rfl
theorem take_end {α : Type} {l : List α} {k : Nat} (hk : ¬ k < l.length) : l.take k = l := List.take_of_length_le om
@[reducible] def rowsR (l : List (List Int)) : RC := .s 45 1 (l.map fun r => [ints r])
@[reducible] def writesR (l : List (Int × List Int)) : RC := .s 103 2 (l.map fun x => [iC x.1, ints x.2])
@[reducible] def diskR (d : Disk) : List RC := [rowsR d.kept, writesR d.wait]
@[reducible] def twoR (t : Two) : List RC := [rowsR t.a.kept, writesR t.a.wait, rowsR t.b.kept, writesR t.b.wait]
theorem c_TwoOk (t : Two) : Pure Tryz.prog 58 [many (twoC t)] (bR (twoOk t)) := by
 refine pure_intro (N := 22) Tryz.func58 rfl rfl rfl rfl (fun H w => ?_)
 refine sq (rg (evl_e (e_box rfl rfl rfl rfl) (xs rfl rfl (nl (et (sq (rg (xf ttOk rfl rfl (xl ttOk rfl rfl (evl_call (nm := 5) (cf rfl) (c_DiskOk ⟨_, _⟩) (rs_of rfl) rfl rfl rfl (xm rfl rfl (evl_part rfl rfl (fun h1 => ?_) (fun h1 => ?_)))))))))))))
 ·refine go h1 rfl rfl (q_fieldAddr ttOk rfl) rfl (go h1 rfl rfl (q_load ttOk rfl) rfl (evl_callg rfl rfl h1 (nm := 9) (cf rfl) (c_DiskOk ⟨_, _⟩) (rs_of rfl) rfl rfl rfl (xo (q_pick_t rfl h1 rfl) rfl (xm rfl rfl (evl_part rfl rfl (fun h2 => ?_) (fun h2 => ?_))))))
  ·refine go h2 rfl rfl (q_fieldAddr ttOk rfl) rfl (go h2 rfl rfl (q_fieldAddr ttOk rfl) rfl (go h2 rfl rfl (q_load ttOk rfl) rfl (go h2 rfl rfl (q_len_map ttOk rfl rfl) rfl (go h2 rfl rfl (q_fieldAddr ttOk rfl) rfl (go h2 rfl rfl (q_fieldAddr ttOk rfl) rfl (go h2 rfl rfl (q_load ttOk rfl) rfl (go h2 rfl rfl (q_len_map ttOk rfl rfl) rfl (go h2 rfl rfl (q_bin ttOk rfl) rfl (xo (q_pick_t rfl h2 rfl) rfl (xs rfl rfl (nl (et (ev_ret (ret_pure' ttOk rfl rfl (congrArg bR (?_ : _ = _))))))))))))))))
   simp [twoOk, h1, h2]; omega
  ·refine gn h2 rfl rfl rfl (gn h2 rfl rfl rfl (gn h2 rfl rfl rfl (gn h2 rfl rfl rfl (gn h2 rfl rfl rfl (gn h2 rfl rfl rfl (gn h2 rfl rfl rfl (gn h2 rfl rfl rfl (gn h2 rfl rfl rfl (xo (q_pick_f rfl h2 rfl) rfl (xs rfl rfl (nl (et (ev_ret (ret_pure' ttOk rfl rfl (congrArg bR (?_ : _ = _))))))))))))))))
   simp [twoOk, h1, h2]
 ·refine gn h1 rfl rfl rfl (gn h1 rfl rfl rfl (gn h1 rfl rfl rfl (xo (q_pick_f rfl h1 rfl) rfl (xm rfl rfl (gn rfl rfl rfl rfl (gn rfl rfl rfl rfl (gn rfl rfl rfl rfl (gn rfl rfl rfl rfl (gn rfl rfl rfl rfl (gn rfl rfl rfl rfl (gn rfl rfl rfl rfl (gn rfl rfl rfl rfl (gn rfl rfl rfl rfl (xo (q_pick_f rfl rfl rfl) rfl (xs rfl rfl (nl (et (ev_ret (ret_pure' ttOk rfl rfl (congrArg bR (?_ : _ = _)))))))))))))))))))))
  simp [twoOk, h1]
theorem c_TwoOk' (t : Two) : Pure Tryz.prog 29 [many (twoC t)] (bR (twoOk t)) := by
 refine pure_intro (N := 22) Tryz.func29 rfl rfl rfl rfl (fun H w => ?_)
 refine sq (rg (evl_e (e_box rfl rfl rfl rfl) (xs rfl rfl (nl (et (sq (rg (xf ttOk rfl rfl (xl ttOk rfl rfl (evl_call (nm := 5) (cf rfl) (c_DiskOk' ⟨_, _⟩) (rs_of rfl) rfl rfl rfl (xm rfl rfl (evl_part rfl rfl (fun h1 => ?_) (fun h1 => ?_)))))))))))))
 ·refine go h1 rfl rfl (q_fieldAddr ttOk rfl) rfl (go h1 rfl rfl (q_load ttOk rfl) rfl (evl_callg rfl rfl h1 (nm := 9) (cf rfl) (c_DiskOk' ⟨_, _⟩) (rs_of rfl) rfl rfl rfl (xo (q_pick_t rfl h1 rfl) rfl (xm rfl rfl (evl_part rfl rfl (fun h2 => ?_) (fun h2 => ?_))))))
  ·refine go h2 rfl rfl (q_fieldAddr ttOk rfl) rfl (go h2 rfl rfl (q_fieldAddr ttOk rfl) rfl (go h2 rfl rfl (q_load ttOk rfl) rfl (go h2 rfl rfl (q_len_map ttOk rfl rfl) rfl (go h2 rfl rfl (q_fieldAddr ttOk rfl) rfl (go h2 rfl rfl (q_fieldAddr ttOk rfl) rfl (go h2 rfl rfl (q_load ttOk rfl) rfl (go h2 rfl rfl (q_len_map ttOk rfl rfl) rfl (go h2 rfl rfl (q_bin ttOk rfl) rfl (xo (q_pick_t rfl h2 rfl) rfl (xs rfl rfl (nl (et (ev_ret (ret_pure' ttOk rfl rfl (congrArg bR (?_ : _ = _))))))))))))))))
   simp [twoOk, h1, h2]; omega
  ·refine gn h2 rfl rfl rfl (gn h2 rfl rfl rfl (gn h2 rfl rfl rfl (gn h2 rfl rfl rfl (gn h2 rfl rfl rfl (gn h2 rfl rfl rfl (gn h2 rfl rfl rfl (gn h2 rfl rfl rfl (gn h2 rfl rfl rfl (xo (q_pick_f rfl h2 rfl) rfl (xs rfl rfl (nl (et (ev_ret (ret_pure' ttOk rfl rfl (congrArg bR (?_ : _ = _))))))))))))))))
   simp [twoOk, h1, h2]
 ·refine gn h1 rfl rfl rfl (gn h1 rfl rfl rfl (gn h1 rfl rfl rfl (xo (q_pick_f rfl h1 rfl) rfl (xm rfl rfl (gn rfl rfl rfl rfl (gn rfl rfl rfl rfl (gn rfl rfl rfl rfl (gn rfl rfl rfl rfl (gn rfl rfl rfl rfl (gn rfl rfl rfl rfl (gn rfl rfl rfl rfl (gn rfl rfl rfl rfl (gn rfl rfl rfl rfl (xo (q_pick_f rfl rfl rfl) rfl (xs rfl rfl (nl (et (ev_ret (ret_pure' ttOk rfl rfl (congrArg bR (?_ : _ = _)))))))))))))))))))))
  simp [twoOk, h1]
theorem c_KeptOk (t : Two) : Pure Tryz.prog 26 [many (twoC t)] (bR (keptOk t)) := by
 refine pure_intro (N := 12) Tryz.func26 rfl rfl rfl rfl (fun H w => ?_)
 refine sq (rg (evl_e (e_box rfl rfl rfl rfl) (xs rfl rfl (nl (et (sq (rg (xl ttOk rfl rfl (evl_call (nm := 4) (cf rfl) (c_TwoOk ⟨⟨_, _⟩, ⟨_, _⟩⟩) (rs_of rfl) rfl rfl rfl (xm rfl rfl (evl_part rfl rfl (fun h1 => ?_) (fun h1 => ?_))))))))))))
 ·refine go h1 rfl rfl (q_fieldAddr ttOk rfl) rfl (go h1 rfl rfl (q_fieldAddr ttOk rfl) rfl (go h1 rfl rfl (q_load ttOk rfl) rfl (go h1 rfl rfl (q_len_map ttOk rfl rfl) rfl (go h1 rfl rfl (q_bin ttOk rfl) rfl (xo (q_pick_t rfl h1 rfl) rfl (xs rfl rfl (nl (et (ev_ret (ret_pure' ttOk rfl rfl (congrArg bR (?_ : _ = _))))))))))))
  simp [keptOk, h1]; omega
 ·refine gn h1 rfl rfl rfl (gn h1 rfl rfl rfl (gn h1 rfl rfl rfl (gn h1 rfl rfl rfl (gn h1 rfl rfl rfl (xo (q_pick_f rfl h1 rfl) rfl (xs rfl rfl (nl (et (ev_ret (ret_pure' ttOk rfl rfl (congrArg bR (?_ : _ = _))))))))))))
  simp [keptOk, h1]
theorem c_KeptOk' (t : Two) : Pure Tryz.prog 18 [many (twoC t)] (bR (keptOk t)) := by
 refine pure_intro (N := 12) Tryz.func18 rfl rfl rfl rfl (fun H w => ?_)
 refine sq (rg (evl_e (e_box rfl rfl rfl rfl) (xs rfl rfl (nl (et (sq (rg (xl ttOk rfl rfl (evl_call (nm := 4) (cf rfl) (c_TwoOk' ⟨⟨_, _⟩, ⟨_, _⟩⟩) (rs_of rfl) rfl rfl rfl (xm rfl rfl (evl_part rfl rfl (fun h1 => ?_) (fun h1 => ?_))))))))))))
 ·refine go h1 rfl rfl (q_fieldAddr ttOk rfl) rfl (go h1 rfl rfl (q_fieldAddr ttOk rfl) rfl (go h1 rfl rfl (q_load ttOk rfl) rfl (go h1 rfl rfl (q_len_map ttOk rfl rfl) rfl (go h1 rfl rfl (q_bin ttOk rfl) rfl (xo (q_pick_t rfl h1 rfl) rfl (xs rfl rfl (nl (et (ev_ret (ret_pure' ttOk rfl rfl (congrArg bR (?_ : _ = _))))))))))))
  simp [keptOk, h1]; omega
 ·refine gn h1 rfl rfl rfl (gn h1 rfl rfl rfl (gn h1 rfl rfl rfl (gn h1 rfl rfl rfl (gn h1 rfl rfl rfl (xo (q_pick_f rfl h1 rfl) rfl (xs rfl rfl (nl (et (ev_ret (ret_pure' ttOk rfl rfl (congrArg bR (?_ : _ = _))))))))))))
  simp [keptOk, h1]
theorem c_l3Copy (d : Disk) (h : diskOk d = true) : Pure Tryz.prog 113 [many (diskC d)] [many' (diskR d)] := by
 refine pure_intro (N := 52) Tryz.func113 rfl rfl rfl rfl (fun H w => ?_)
 have hs := diskOk_sizes h
 refine sq (rg (evl_e (e_box rfl rfl rfl rfl) (evl_e (e_alloc ttOk rfl rfl rfl rfl) (nl (et (sq (rg (xo (q_build ttOk rfl) rfl (evl_e (e_alloc ttOk rfl rfl rfl rfl) (xst ttOk rfl rfl (nl (et (sq (sq (ev_adopt (b := 3) 0 101 45 1 rfl rfl rfl rfl rfl (ev_adopt (b := 3) 1 102 103 2 rfl rfl rfl rfl rfl (rg (xs rfl rfl (nl (et (ev_blk (ev_loop (fun k : Nat => (⟨[(4, iV k), (1, pbV 1 0), (3, pbV 3 0), (2, pbV 2 0)], [(3, 30, [.rt 101, .rt 102]), (2, 30, [.c .nil, .c .nil]), (1, 30, [.c (rows d.kept), .c (writes d.wait)])], [(101, 45, 1, ((d.kept.take k).map fun r => [ints r])), (102, 103, 2, [])], []⟩ : St)) (fun k => k ≤ d.kept.length) (fun k => d.kept.length - k) 0 [] (by simp) ⟨trf, trf, ⟨⟨_, rfl, by rfl⟩, ⟨_, rfl, by rfl⟩, trivial⟩, tre, rfl⟩ ?_))))))))))))))))))))))
 intro k hp
 have p0 := hp
 show Ev _ _ _ _ (⟨[(4, iV k), (1, pbV 1 0), (3, pbV 3 0), (2, pbV 2 0)], [(3, 30, [.rt 101, .rt 102]), (2, 30, [.c .nil, .c .nil]), (1, 30, [.c (rows d.kept), .c (writes d.wait)])], [(101, 45, 1, ((d.kept.take k).map fun r => [ints r])), (102, 103, 2, [])], []⟩ : St)
 refine sq (sq (rg (xm rfl rfl (xf ttOk rfl rfl (xl ttOk rfl rfl (xo (q_len_map ttOk rfl rfl) rfl (xb ttOk rfl rfl (nl (et (ev_cond rfl (fun h1 => ?_) (fun h1 => ?_)))))))))))
 ·have d1 := of_decide_eq_true h1
  refine ev_skip (et (sq (ev_blk ?_)))
  have hl := kept_len h (k := k) om
  refine ev_drawq [9, 11] mo (rk0 0 rfl (q_fieldAddr ttOk rfl) rfl (rk0 1 rfl (q_load ttOk rfl) rfl (rk0 2 rfl (q_fieldAddr ttOk rfl) rfl (rk0 3 rfl (q_load ttOk rfl) rfl (rk0 4 rfl (q_move rfl) rfl (rk0 5 rfl (q_ix_map ttOk rfl rfl rfl rfl om) rfl (rk0 6 rfl (q_load ttOk rfl) rfl (rdk_one 7 kr (rdo_call (nm := 21) rfl trivial (cf rfl) (c_l1Copy _ om) (rs_of rfl) rfl rfl rfl (rdk_one 8 kr (rdo_new rfl trivial (e_lit ttOk rfl rfl rfl) (rdk_one 9 kr (rdo_brk rfl rfl trivial (e_app ttOk rfl rfl rfl rfl rfl rfl rfl (by simp; omega) rfl rfl) (rdb_q 10 rfl kr trivial (q_fieldAddr ttOk rfl) rfl (rdb_eff 11 rfl kr trivial (e_store ttOk rfl) (rdb_endq kr (eb (et (rg (xm rfl rfl (xa rfl rfl rfl om rfl (xs rfl rfl (nl (eve_round (k + 1) [(101, 23)] ?hp ⟨trf, trf, ⟨⟨_, rfl, by exact map_next om⟩, ⟨_, rfl, by rfl⟩, trivial⟩, tre, rfl⟩))))))))))))))))))))))))
  case hp => exact ⟨by omega, by omega⟩
 ·have d1 := of_decide_eq_false h1
  refine ev_exit (evx_then (evx_then (evx_hit (et (sq (sq (rg (xs rfl rfl (nl (et (ev_blk (ev_loop (fun j : Nat => (⟨[(5, iV j), (1, pbV 1 0), (3, pbV 3 0), (2, pbV 2 0)], [(3, 30, [.rt 101, .rt 102]), (2, 30, [.c .nil, .c .nil]), (1, 30, [.c (rows d.kept), .c (writes d.wait)])], [(101, 45, 1, (d.kept.map fun r => [ints r])), (102, 103, 2, ((d.wait.take j).map fun x => [iC x.1, ints x.2]))], []⟩ : St)) (fun j => j ≤ d.wait.length) (fun j => d.wait.length - j) 0 [] (by simp) ⟨trf, trf, ⟨⟨_, rfl, by rw [take_end om]⟩, ⟨_, rfl, by rfl⟩, trivial⟩, tre, rfl⟩ ?_))))))))))))
  intro j hp
  have q0 := hp
  show Ev _ _ _ _ (⟨[(5, iV j), (1, pbV 1 0), (3, pbV 3 0), (2, pbV 2 0)], [(3, 30, [.rt 101, .rt 102]), (2, 30, [.c .nil, .c .nil]), (1, 30, [.c (rows d.kept), .c (writes d.wait)])], [(101, 45, 1, (d.kept.map fun r => [ints r])), (102, 103, 2, ((d.wait.take j).map fun x => [iC x.1, ints x.2]))], []⟩ : St)
  refine sq (sq (rg (xm rfl rfl (xf ttOk rfl rfl (xl ttOk rfl rfl (xo (q_len_map ttOk rfl rfl) rfl (xb ttOk rfl rfl (nl (et (ev_cond rfl (fun h2 => ?_) (fun h2 => ?_)))))))))))
  ·have d2 := of_decide_eq_true h2
   refine ev_skip (et (sq (ev_blk ?_)))
   have hl := wait_len h (k := j) om
   refine ev_drawq [17, 19] mo (rk0 0 rfl (q_fieldAddr ttOk rfl) rfl (rk0 1 rfl (q_load ttOk rfl) rfl (rk0 2 rfl (q_fieldAddr ttOk rfl) rfl (rk0 3 rfl (q_load ttOk rfl) rfl (rk0 4 rfl (q_move rfl) rfl (rk0 5 rfl (q_ix_map ttOk rfl rfl rfl rfl om) rfl (rk0 6 rfl (q_fieldAddr ttOk rfl) rfl (rk0 7 rfl (q_load ttOk rfl) rfl (rk0 8 rfl (q_fieldAddr ttOk rfl) rfl (rk0 9 rfl (q_load ttOk rfl) rfl (rk0 10 rfl (q_move rfl) rfl (rk0 11 rfl (q_ix_map ttOk rfl rfl rfl rfl om) rfl (rk0 12 rfl (q_fieldAddr ttOk rfl) rfl (rk0 13 rfl (q_load ttOk rfl) rfl (rdk_one 14 kr (rdo_call (nm := 46) rfl trivial (cf rfl) (c_l1Copy _ om) (rs_of rfl) rfl rfl rfl (rk0 15 rfl (q_build ttOk rfl) rfl (rdk_one 16 kr (rdo_new rfl trivial (e_lit ttOk rfl rfl rfl) (rdk_one 17 kr (rdo_brk rfl rfl trivial (e_app ttOk rfl rfl rfl rfl rfl rfl rfl (by simp; omega) rfl rfl) (rdb_q 18 rfl kr trivial (q_fieldAddr ttOk rfl) rfl (rdb_eff 19 rfl kr trivial (e_store ttOk rfl) (rdb_endq kr (eb (et (rg (xm rfl rfl (xa rfl rfl rfl om rfl (xs rfl rfl (nl (eve_round (j + 1) [(102, 49)] ?hp ⟨trf, trf, ⟨⟨_, rfl, by rfl⟩, ⟨_, rfl, by exact map_next om⟩, trivial⟩, tre, rfl⟩))))))))))))))))))))))))))))))))
   case hp => exact ⟨by omega, by omega⟩
  ·have d2 := of_decide_eq_false h2
   refine ev_exit (evx_then (evx_then (evx_hit (et (sq (rg (xl ttOk rfl rfl (xst ttOk rfl rfl (nl (et (ev_ret (ret_pure' ttOk rfl rfl ?_))))))))))))
   rw [take_end (l := d.wait) om]
theorem c_copyRows (l : List (List Int)) (h : l.length ≤ 40) (h2 : ∀ r ∈ l, rowOk r = true) : Pure Tryz.prog 97 [one (rows l)] [one' (rowsR l)] := by
 refine pure_intro (N := 22) Tryz.func97 rfl rfl rfl rfl (fun H w => ?_)
 refine sq (rg (xs rfl rfl (nl (et (sq (rg (xm rfl rfl (xo (q_len_map ttOk rfl rfl) rfl (evl_e (e_make0 ttOk rfl rfl rfl rfl rfl rfl rfl om rfl rfl) (xs rfl rfl (nl (et (sq (sq (rg (xm rfl rfl (xo (q_len_map ttOk rfl rfl) rfl (xm rfl rfl (nl (et (ev_blk (ev_loop (fun k : Nat => (⟨[(11, iV k), (9, cV (rows l)), (10, iV l.length), (3, .p false [.rt 101])], [], [(101, 45, 1, ((l.take k).map fun r => [ints r]))], []⟩ : St)) (fun k => k ≤ l.length) (fun k => l.length - k) 0 [(101, 8)] (by simp) ⟨trf, trf, ⟨⟨_, rfl, by rfl⟩, trivial⟩, tre, rfl⟩ ?_))))))))))))))))))))))
 intro k hp
 have p0 := hp
 show Ev _ _ _ _ (⟨[(11, iV k), (9, cV (rows l)), (10, iV l.length), (3, .p false [.rt 101])], [], [(101, 45, 1, ((l.take k).map fun r => [ints r]))], []⟩ : St)
 refine sq (rg (xb ttOk rfl rfl (nl (et (sq (ev_cond rfl (fun h1 => ?_) (fun h1 => ?_)))))))
 ·have d1 := of_decide_eq_true h1
  refine ev_skip (et (sq (ev_blk (sq ?_))))
  have hl := (rowOk_nums (h2 _ (List.getElem_mem (show k < l.length by omega)))).1
  refine rg (xo (q_ix_map ttOk rfl rfl rfl rfl om) rfl (xl ttOk rfl rfl (xs rfl rfl (nl (et (rg (xm rfl rfl (xm rfl rfl (evl_call (nm := 17) (cf rfl) (c_copyRow _ om) (rs_of rfl) rfl rfl rfl (evl_e (e_lit ttOk rfl rfl rfl) (evl_e (e_app ttOk rfl rfl rfl rfl rfl rfl rfl (by simp; omega) rfl rfl) (xs rfl rfl (nl (eb (et (rg (xa rfl rfl rfl om rfl (xm rfl rfl (nl (eve_round (k + 1) [(101, 19)] ?hp ⟨trf, trf, ⟨⟨_, rfl, by exact map_next om⟩, trivial⟩, tre, rfl⟩))))))))))))))))))))
  case hp => exact ⟨by omega, by omega⟩
 ·have d1 := of_decide_eq_false h1
  refine ev_exit (evx_then (evx_then (evx_hit (et (sq (rg (xm rfl rfl (xs rfl rfl (nl (et (ev_ret (ret_pure' ttOk rfl rfl ?_))))))))))))
  rw [take_end (l := l) om]
theorem c_copyDisk (d : Disk) (h : diskOk d = true) : Pure Tryz.prog 65 [many (diskC d)] [many' (diskR d)] := by
 refine pure_intro (N := 30) Tryz.func65 rfl rfl rfl rfl (fun H w => ?_)
 have hs := diskOk_sizes h
 have hr := hs.2.2.2.1
 refine sq (rg (evl_e (e_box rfl rfl rfl rfl) (evl_e (e_alloc ttOk rfl rfl rfl rfl) (nl (et (sq (rg (xf ttOk rfl rfl (xl ttOk rfl rfl (evl_call (nm := 8) (cf rfl) (c_copyRows _ om ‹_›) (rs_of rfl) rfl rfl rfl (xo (q_build ttOk rfl) rfl (evl_e (e_alloc ttOk rfl rfl rfl rfl) (xst ttOk rfl rfl (nl (et (sq (sq (ev_adopt (b := 3) 1 102 103 2 rfl rfl rfl rfl rfl (rg (xf ttOk rfl rfl (xl ttOk rfl rfl (xo (q_len_map ttOk rfl rfl) rfl (xm rfl rfl (nl (et (ev_blk (ev_loop (fun j : Nat => (⟨[(13, iV j), (11, cV (writes d.wait)), (12, iV d.wait.length), (1, pbV 1 0), (3, pbV 3 0), (2, pbV 2 0)], [(3, 30, [.rt 101, .rt 102]), (2, 30, [.c .nil, .c .nil]), (1, 30, [.c (rows d.kept), .c (writes d.wait)])], [(101, 45, 1, (d.kept.map fun r => [ints r])), (102, 103, 2, ((d.wait.take j).map fun x => [iC x.1, ints x.2]))], []⟩ : St)) (fun j => j ≤ d.wait.length) (fun j => d.wait.length - j) 0 [(101, 8)] (by simp) ⟨trf, trf, ⟨⟨_, rfl, by rfl⟩, ⟨_, rfl, by rfl⟩, trivial⟩, tre, rfl⟩ ?_)))))))))))))))))))))))))))
 intro j hp
 have q0 := hp
 show Ev _ _ _ _ (⟨[(13, iV j), (11, cV (writes d.wait)), (12, iV d.wait.length), (1, pbV 1 0), (3, pbV 3 0), (2, pbV 2 0)], [(3, 30, [.rt 101, .rt 102]), (2, 30, [.c .nil, .c .nil]), (1, 30, [.c (rows d.kept), .c (writes d.wait)])], [(101, 45, 1, (d.kept.map fun r => [ints r])), (102, 103, 2, ((d.wait.take j).map fun x => [iC x.1, ints x.2]))], []⟩ : St)
 refine sq (rg (xb ttOk rfl rfl (nl (et (sq (ev_cond rfl (fun h1 => ?_) (fun h1 => ?_)))))))
 ·have d1 := of_decide_eq_true h1
  refine ev_skip (et (sq (ev_blk (sq ?_))))
  have hl := wait_len h (k := j) om
  refine rg (xo (q_ix_map ttOk rfl rfl rfl rfl om) rfl (xl ttOk rfl rfl (evl_e (e_alloc ttOk rfl rfl rfl rfl) (xst ttOk rfl rfl (nl (et (ev_drawq [9, 11] mo (rk0 0 rfl (q_fieldAddr ttOk rfl) rfl (rk0 1 rfl (q_load ttOk rfl) rfl (rk0 2 rfl (q_fieldAddr ttOk rfl) rfl (rk0 3 rfl (q_load ttOk rfl) rfl (rk0 4 rfl (q_fieldAddr ttOk rfl) rfl (rk0 5 rfl (q_load ttOk rfl) rfl (rdk_one 6 kr (rdo_call (nm := 23) rfl trivial (cf rfl) (c_copyRow _ om) (rs_of rfl) rfl rfl rfl (rk0 7 rfl (q_build ttOk rfl) rfl (rdk_one 8 kr (rdo_new rfl trivial (e_lit ttOk rfl rfl rfl) (rdk_one 9 kr (rdo_brk rfl rfl trivial (e_app ttOk rfl rfl rfl rfl rfl rfl rfl (by simp; omega) rfl rfl) (rdb_q 10 rfl kr trivial (q_fieldAddr ttOk rfl) rfl (rdb_eff 11 rfl kr trivial (e_store ttOk rfl) (rdb_endq kr (eb (et (rg (xa rfl rfl rfl om rfl (xm rfl rfl (nl (eve_round (j + 1) [(102, 26)] ?hp ⟨trf, trf, ⟨⟨_, rfl, by rfl⟩, ⟨_, rfl, by exact map_next om⟩, trivial⟩, tre, rfl⟩))))))))))))))))))))))))))))))
  case hp => exact ⟨by omega, by omega⟩
 ·have d1 := of_decide_eq_false h1
  refine ev_exit (evx_then (evx_then (evx_hit (et (sq (rg (xl ttOk rfl rfl (xst ttOk rfl rfl (nl (et (ev_ret (ret_pure' ttOk rfl rfl ?_))))))))))))
  rw [take_end (l := d.wait) om]
theorem c_l4Copy (t : Two) (h : twoOk t = true) : Pure Tryz.prog 129 [many (twoC t)] [many' (twoR t)] := by
 refine pure_intro (N := 10) Tryz.func129 rfl rfl rfl rfl (fun H w => ?_)
 obtain ⟨ha, hb⟩ := twoOk_both h
 refine sq (rg (evl_e (e_box rfl rfl rfl rfl) (evl_e (e_alloc ttOk rfl rfl rfl rfl) (nl (et (sq (ev_drawq [7] mo (rk0 0 rfl (q_fieldAddr ttOk rfl) rfl (rk0 1 rfl (q_load ttOk rfl) rfl (rk0 3 rfl (q_fieldAddr ttOk rfl) rfl (rk0 4 rfl (q_load ttOk rfl) rfl (rdk_one 2 kr ?_))))))))))))
 first | refine rdo_call (nm := 5) rfl trivial (cf rfl) (c_l3Copy t.a ha) (rs_of rfl) rfl rfl rfl ?_ | refine rdo_call (nm := 5) rfl trivial (cf rfl) (c_l3Copy t.b hb) (rs_of rfl) rfl rfl rfl ?_
 refine rdk_one 5 kr ?_
 first | refine rdo_call (nm := 8) rfl trivial (cf rfl) (c_l3Copy t.a ha) (rs_of rfl) rfl rfl rfl ?_ | refine rdo_call (nm := 8) rfl trivial (cf rfl) (c_l3Copy t.b hb) (rs_of rfl) rfl rfl rfl ?_
 refine rk0 6 rfl (q_build ttOk rfl) rfl (rdk_one 7 kr (rdo_brk rfl rfl trivial (e_store ttOk rfl) (rdb_endq kr (et (ev_ret (ret_pure' ttOk rfl rfl ?_))))))
 rfl
theorem c_copyTwo (t : Two) (h : twoOk t = true) : Pure Tryz.prog 86 [many (twoC t)] [many' (twoR t)] := by
 refine pure_intro (N := 10) Tryz.func86 rfl rfl rfl rfl (fun H w => ?_)
 obtain ⟨ha, hb⟩ := twoOk_both h
 refine sq (rg (evl_e (e_box rfl rfl rfl rfl) (evl_e (e_alloc ttOk rfl rfl rfl rfl) (nl (et (sq (ev_drawq [7] mo (rk0 0 rfl (q_fieldAddr ttOk rfl) rfl (rk0 1 rfl (q_load ttOk rfl) rfl (rk0 3 rfl (q_fieldAddr ttOk rfl) rfl (rk0 4 rfl (q_load ttOk rfl) rfl (rdk_one 2 kr ?_))))))))))))
 first | refine rdo_call (nm := 5) rfl trivial (cf rfl) (c_copyDisk t.a ha) (rs_of rfl) rfl rfl rfl ?_ | refine rdo_call (nm := 5) rfl trivial (cf rfl) (c_copyDisk t.b hb) (rs_of rfl) rfl rfl rfl ?_
 refine rdk_one 5 kr ?_
 first | refine rdo_call (nm := 8) rfl trivial (cf rfl) (c_copyDisk t.a ha) (rs_of rfl) rfl rfl rfl ?_ | refine rdo_call (nm := 8) rfl trivial (cf rfl) (c_copyDisk t.b hb) (rs_of rfl) rfl rfl rfl ?_
 refine rk0 6 rfl (q_build ttOk rfl) rfl (rdk_one 7 kr (rdo_brk rfl rfl trivial (e_store ttOk rfl) (rdb_endq kr (et (ev_ret (ret_pure' ttOk rfl rfl ?_))))))
 rfl
def lastW (l : List (Int × List Int)) (x : Int) : Option (List Int) := l.foldl (fun r y => if y.1 = x then some y.2 else r) none
theorem fold_none {x : Int} : ∀ {l : List (Int × List Int)} {r : Option (List Int)}, (∀ y ∈ l, y.1 ≠ x) → l.foldl (fun r y => if y.1 = x then some y.2 else r) r = r
 | [], _, _ => rfl
 | y :: l, r, h => by
  rw [List.foldl_cons, if_neg (h y (by simp))]
  exact fold_none fun z hz => h z (by simp [hz])
theorem lastW_none {l : List (Int × List Int)} {x : Int} (h : ∀ y ∈ l, y.1 ≠ x) : lastW l x = none := fold_none h
theorem lastW_hit {l : List (Int × List Int)} {x : Int} {k : Nat} (hk : k < l.length) (h1 : l[k].1 = x) (h : ∀ y ∈ l.drop (k + 1), y.1 ≠ x) : lastW l x = some l[k].2 := by
 unfold lastW
 conv => lhs; arg 3; rw [← List.take_append_drop k l, List.drop_eq_getElem_cons hk]
 rw [List.foldl_append, List.foldl_cons, if_pos h1, fold_none h]
theorem drop_step {α : Type} {p : α → Prop} {l : List α} {k : Nat} (hk : k < l.length) (h1 : p l[k]) (h : ∀ y ∈ l.drop (k + 1), p y) : ∀ y ∈ l.drop k, p y := by
 rw [List.drop_eq_getElem_cons hk]
 intro y hy
 rcases List.mem_cons.1 hy with rfl | hy
 ·exact h1
 ·exact h y hy
def readF (d : Disk) (x : Int) : Option (List Int) := if diskOk d && hasAt d x then some ((lastW d.wait x).getD (d.kept.getD x.toNat [])) else none
theorem hasAt_iff {d : Disk} {x : Int} : hasAt d x = true ↔ 0 ≤ x ∧ x < d.kept.length := by simp [hasAt, inB]; omega
theorem read_no1 {d : Disk} {x : Int} (h : diskOk d = false) : readF d x = none := by simp [readF, h]
theorem read_no2 {d : Disk} {x : Int} (h : hasAt d x = false) : readF d x = none := by simp [readF, h]
theorem read_hit {d : Disk} {x : Int} {k : Nat} (h1 : diskOk d = true) (h2 : hasAt d x = true) (hk : k < d.wait.length) (h3 : d.wait[k].1 = x) (h : ∀ y ∈ d.wait.drop (k + 1), y.1 ≠ x) : readF d x = some d.wait[k].2 := by simp [readF, h1, h2, lastW_hit hk h3 h]
theorem read_kept {d : Disk} {x : Int} (h1 : diskOk d = true) (h2 : hasAt d x = true) (hk : x.toNat < d.kept.length) (h : ∀ y ∈ d.wait.drop 0, y.1 ≠ x) : readF d x = some d.kept[x.toNat] := by
 rw [List.drop_zero] at h
 simp [readF, h1, h2, lastW_none h, List.getElem?_eq_getElem hk]
theorem c_ReadAt (d : Disk) (x : Int) : Pure Tryz.prog 60 [many (diskC d), one (iC x)] [one' (intsR 2 ((readF d x).getD [])), one' (RC.v (.bool (readF d x).isSome))] := by
 refine pure_intro (N := 46) Tryz.func60 rfl rfl rfl rfl (fun H w => ?_)
 refine sq (rg (evl_e (e_box rfl rfl rfl rfl) (xs rfl rfl (xs rfl rfl (nl (et (sq (sq (rg (xl ttOk rfl rfl (evl_call (nm := 8) (cf rfl) (c_DiskOk _) (rs_of rfl) rfl rfl rfl (xo (q_not rfl) rfl (xm rfl rfl (evl_partn rfl rfl (fun h1 => ?_) (fun h1 => ?_)))))))))))))))
 ·refine gn (nt h1) rfl rfl rfl (gn (nt h1) rfl rfl rfl (gn (nt h1) rfl rfl rfl (gn (nt h1) rfl rfl rfl (xo (q_pick_t rfl (nt h1) rfl) rfl (nl (et (ev_cond_kt rfl rfl (sq (rg (evl_e (e_lit ttOk rfl rfl rfl) (xs rfl rfl (xs rfl rfl (nl (et (ev_ret (evr_then (ret_pureN ttOk rfl rfl ?_)))))))))))))))))
  rw [read_no1 h1]; simp [RpLe, L2, RcLe]
 ·refine go (nf h1) rfl rfl (q_load ttOk rfl) rfl (gm (nf h1) rfl rfl rfl rfl (evl_callg rfl rfl (nf h1) (nm := 13) (cf rfl) (c_l3Has ⟨_, _⟩ _) (rs_of rfl) rfl rfl rfl (go (nf h1) rfl rfl (q_not rfl) rfl (xo (q_pick_f rfl (nf h1) rfl) rfl (nl (et (ev_cond_n rfl (fun h2 => ?_) (fun h2 => ?_))))))))
  ·refine sq (rg (evl_e (e_lit ttOk rfl rfl rfl) (xs rfl rfl (xs rfl rfl (nl (et (ev_ret (evr_then (ret_pureN ttOk rfl rfl ?_)))))))))
   rw [read_no2 h2]; simp [RpLe, L2, RcLe]
  ·have hs := diskOk_sizes h1
   have hx : 0 ≤ x ∧ x < d.kept.length := hasAt_iff.1 h2
   refine ev_skip (et (sq (sq (rg (xf ttOk rfl rfl (xl ttOk rfl rfl (xo (q_len_map ttOk rfl rfl) rfl (xa rfl rfl rfl om rfl (xs rfl rfl (nl (et (ev_blk (ev_loop (fun i : Nat × Int => (⟨[(6, iV i.2), (2, pbV 2 0), (1, iV x)], [(2, 30, [.c (rows d.kept), .c (writes d.wait)])], [], []⟩ : St)) (fun i => i.1 ≤ d.wait.length ∧ i.2 = (i.1 : Int) - 1 ∧ ∀ y ∈ d.wait.drop i.1, y.1 ≠ x) (fun i => i.1) (d.wait.length, _) [] (⟨by simp, rfl, by simp⟩) lei ?_)))))))))))))
   intro i hp
   obtain ⟨k, z⟩ := i
   have hp : k ≤ d.wait.length ∧ z = (k : Int) - 1 ∧ ∀ y ∈ d.wait.drop k, y.1 ≠ x := hp
   obtain ⟨p0, p1, p2⟩ := hp
   show Ev _ _ _ _ (⟨[(6, iV z), (2, pbV 2 0), (1, iV x)], [(2, 30, [.c (rows d.kept), .c (writes d.wait)])], [], []⟩ : St)
   refine sq (sq (rg (xm rfl rfl (xb ttOk rfl rfl (nl (et (ev_cond rfl (fun h3 => ?_) (fun h3 => ?_))))))))
   ·have d3 := of_decide_eq_true h3
    refine ev_skip (et (sq (ev_blk (sq (rg (xf ttOk rfl rfl (xl ttOk rfl rfl (xm rfl rfl (xo (q_ix_map (m := k - 1) ttOk rfl rfl rfl om om) rfl (xf ttOk rfl rfl (xl ttOk rfl rfl (xm rfl rfl (xb ttOk rfl rfl (nl (et (ev_cond rfl (fun h4 => ?_) (fun h4 => ?_)))))))))))))))))
    ·have d4 := of_decide_eq_true h4
     refine sq ?_
     have hl := wait_len h1 (k := k - 1) om
     refine rg (xf ttOk rfl rfl (xl ttOk rfl rfl (xm rfl rfl (xo (q_ix_map (m := k - 1) ttOk rfl rfl rfl om om) rfl (xf ttOk rfl rfl (xl ttOk rfl rfl (evl_call (nm := 39) (cf rfl) (c_l1Copy _ om) (rs_of rfl) rfl rfl rfl (xs rfl rfl (xs rfl rfl (nl (et (ev_ret (evr_blk (evr_then (evr_then (evr_blk (evr_then (ret_pure' ttOk rfl rfl ?_))))))))))))))))))
     rw [read_hit (k := k - 1) h1 h2 om d4 (by rw [show k - 1 + 1 = k by omega]; exact p2)]; rfl
    ·have d4 := of_decide_eq_false h4
     refine ev_skip (eb (et (rg (xm rfl rfl (xa rfl rfl rfl om rfl (xs rfl rfl (nl (eve_round (k - 1, _) [] ?hp lei))))))))
     case hp => exact ⟨⟨by omega, by omega, drop_step om d4 (by rw [show k - 1 + 1 = k by omega]; exact p2)⟩, by omega⟩
   ·have d3 := of_decide_eq_false h3
    refine ev_exit (evx_then (evx_then (evx_hit (et (sq ?_)))))
    have hl := kept_len h1 (k := x.toNat) om
    refine rg (xf ttOk rfl rfl (xl ttOk rfl rfl (xm rfl rfl (xo (q_ix_map (m := x.toNat) ttOk rfl rfl rfl om om) rfl (xl ttOk rfl rfl (evl_call (nm := 45) (cf rfl) (c_l1Copy _ om) (rs_of rfl) rfl rfl rfl (xs rfl rfl (xs rfl rfl (nl (et (ev_ret (ret_pure' ttOk rfl rfl ?_))))))))))))
    obtain rfl : k = 0 := by omega
    rw [read_kept h1 h2 om p2]; rfl
theorem c_ReadAt' (d : Disk) (x : Int) : Pure Tryz.prog 78 [many (diskC d), one (iC x)] [one' (intsR 2 ((readF d x).getD [])), one' (RC.v (.bool (readF d x).isSome))] := by
 refine pure_intro (N := 45) Tryz.func78 rfl rfl rfl rfl (fun H w => ?_)
 refine sq (rg (evl_e (e_box rfl rfl rfl rfl) (xs rfl rfl (xs rfl rfl (nl (et (sq (sq (rg (xl ttOk rfl rfl (evl_call (nm := 8) (cf rfl) (c_DiskOk' _) (rs_of rfl) rfl rfl rfl (xo (q_not rfl) rfl (xm rfl rfl (evl_partn rfl rfl (fun h1 => ?_) (fun h1 => ?_)))))))))))))))
 ·refine gn (nt h1) rfl rfl rfl (gn (nt h1) rfl rfl rfl (gn (nt h1) rfl rfl rfl (gn (nt h1) rfl rfl rfl (xo (q_pick_t rfl (nt h1) rfl) rfl (nl (et (ev_cond_kt rfl rfl (sq (rg (xs rfl rfl (xs rfl rfl (nl (et (ev_ret (evr_then (ret_pureN ttOk rfl rfl ?_))))))))))))))))
  rw [read_no1 h1]; simp [RpLe, L2, RcLe]
 ·refine go (nf h1) rfl rfl (q_load ttOk rfl) rfl (gm (nf h1) rfl rfl rfl rfl (evl_callg rfl rfl (nf h1) (nm := 13) (cf rfl) (c_sectorOk ⟨_, _⟩ _) (rs_of rfl) rfl rfl rfl (go (nf h1) rfl rfl (q_not rfl) rfl (xo (q_pick_f rfl (nf h1) rfl) rfl (nl (et (ev_cond_n rfl (fun h2 => ?_) (fun h2 => ?_))))))))
  ·refine sq (rg (xs rfl rfl (xs rfl rfl (nl (et (ev_ret (evr_then (ret_pureN ttOk rfl rfl ?_))))))))
   rw [read_no2 h2]; simp [RpLe, L2, RcLe]
  ·have hs := diskOk_sizes h1
   have hx : 0 ≤ x ∧ x < d.kept.length := hasAt_iff.1 h2
   refine ev_skip (et (sq (sq (rg (xf ttOk rfl rfl (xl ttOk rfl rfl (xo (q_len_map ttOk rfl rfl) rfl (xa rfl rfl rfl om rfl (xs rfl rfl (nl (et (ev_blk (ev_loop (fun i : Nat × Int => (⟨[(6, iV i.2), (2, pbV 2 0), (1, iV x)], [(2, 30, [.c (rows d.kept), .c (writes d.wait)])], [], []⟩ : St)) (fun i => i.1 ≤ d.wait.length ∧ i.2 = (i.1 : Int) - 1 ∧ ∀ y ∈ d.wait.drop i.1, y.1 ≠ x) (fun i => i.1) (d.wait.length, _) [] (⟨by simp, rfl, by simp⟩) lei ?_)))))))))))))
   intro i hp
   obtain ⟨k, z⟩ := i
   have hp : k ≤ d.wait.length ∧ z = (k : Int) - 1 ∧ ∀ y ∈ d.wait.drop k, y.1 ≠ x := hp
   obtain ⟨p0, p1, p2⟩ := hp
   show Ev _ _ _ _ (⟨[(6, iV z), (2, pbV 2 0), (1, iV x)], [(2, 30, [.c (rows d.kept), .c (writes d.wait)])], [], []⟩ : St)
   refine sq (sq (rg (xm rfl rfl (xb ttOk rfl rfl (nl (et (ev_cond rfl (fun h3 => ?_) (fun h3 => ?_))))))))
   ·have d3 := of_decide_eq_true h3
    refine ev_skip (et (sq (ev_blk (sq (rg (xf ttOk rfl rfl (xl ttOk rfl rfl (xm rfl rfl (xo (q_ix_map (m := k - 1) ttOk rfl rfl rfl om om) rfl (xf ttOk rfl rfl (xl ttOk rfl rfl (xm rfl rfl (xb ttOk rfl rfl (nl (et (ev_cond rfl (fun h4 => ?_) (fun h4 => ?_)))))))))))))))))
    ·have d4 := of_decide_eq_true h4
     refine sq ?_
     have hl := wait_len h1 (k := k - 1) om
     refine rg (xf ttOk rfl rfl (xl ttOk rfl rfl (xm rfl rfl (xo (q_ix_map (m := k - 1) ttOk rfl rfl rfl om om) rfl (xf ttOk rfl rfl (xl ttOk rfl rfl (evl_call (nm := 38) (cf rfl) (c_copyRow _ om) (rs_of rfl) rfl rfl rfl (xs rfl rfl (xs rfl rfl (nl (et (ev_ret (evr_blk (evr_then (evr_then (evr_blk (evr_then (ret_pure' ttOk rfl rfl ?_))))))))))))))))))
     rw [read_hit (k := k - 1) h1 h2 om d4 (by rw [show k - 1 + 1 = k by omega]; exact p2)]; rfl
    ·have d4 := of_decide_eq_false h4
     refine ev_skip (eb (et (rg (xm rfl rfl (xa rfl rfl rfl om rfl (xs rfl rfl (nl (eve_round (k - 1, _) [] ?hp lei))))))))
     case hp => exact ⟨⟨by omega, by omega, drop_step om d4 (by rw [show k - 1 + 1 = k by omega]; exact p2)⟩, by omega⟩
   ·have d3 := of_decide_eq_false h3
    refine ev_exit (evx_then (evx_then (evx_hit (et (sq ?_)))))
    have hl := kept_len h1 (k := x.toNat) om
    refine rg (xf ttOk rfl rfl (xl ttOk rfl rfl (xm rfl rfl (xo (q_ix_map (m := x.toNat) ttOk rfl rfl rfl om om) rfl (xl ttOk rfl rfl (evl_call (nm := 44) (cf rfl) (c_copyRow _ om) (rs_of rfl) rfl rfl rfl (xs rfl rfl (xs rfl rfl (nl (et (ev_ret (ret_pure' ttOk rfl rfl ?_))))))))))))
    obtain rfl : k = 0 := by omega
    rw [read_kept h1 h2 om p2]; rfl
theorem c_disks (x1 x2 x3 x4 : Value) : Pure Tryz.prog 30 [many [.v x1, .v x2, .v x3, .v x4]] [many' [.v x1, .v x2, .v x3, .v x4]] := by
 refine pure_intro (N := 8) Tryz.func30 rfl rfl rfl rfl (fun H w => ?_)
 refine sq ?_
 refine rg ?_
 refine evl_e (e_box rfl rfl rfl rfl) ?_
 refine evl_e (e_alloc ttOk rfl rfl rfl rfl) ?_
 refine nl ?_
 refine et ?_
 refine sq ?_
 refine rg ?_
 refine xf ttOk rfl rfl ?_
 refine xl ttOk rfl rfl ?_
 refine xf ttOk rfl rfl ?_
 refine xl ttOk rfl rfl ?_
 refine xo (q_build ttOk rfl) rfl ?_
 refine xst ttOk rfl rfl ?_
 refine nl ?_
 refine et ?_
 refine ev_ret ?_
 refine ret_pure' ttOk rfl rfl ?_
 rfl
theorem c_twoOf (x1 x2 x3 x4 : Value) : Pure Tryz.prog 32 [many [.v x1, .v x2, .v x3, .v x4]] [many' [.v x1, .v x2, .v x3, .v x4]] := by
 refine pure_intro (N := 8) Tryz.func32 rfl rfl rfl rfl (fun H w => ?_)
 refine sq ?_
 refine rg ?_
 refine evl_e (e_box rfl rfl rfl rfl) ?_
 refine evl_e (e_alloc ttOk rfl rfl rfl rfl) ?_
 refine nl ?_
 refine et ?_
 refine sq ?_
 refine rg ?_
 refine xo (q_ix_arr 0 ttOk rfl rfl rfl) rfl ?_
 refine xl ttOk rfl rfl ?_
 refine xo (q_ix_arr 1 ttOk rfl rfl rfl) rfl ?_
 refine xl ttOk rfl rfl ?_
 refine xo (q_build ttOk rfl) rfl ?_
 refine xst ttOk rfl rfl ?_
 refine nl ?_
 refine et ?_
 refine ev_ret ?_
 refine ret_pure' ttOk rfl rfl ?_
 rfl
def uns (o : Option (List Int)) : Option (List Int) := unsF (o.getD [])
def rightOf (a b : Option (List Int)) : List (List Int) := a.toList ++ match b with
 | none => []
 | some y => match a with
  | none => [y]
  | some x => if eqL x y then [] else [y]
def rightF (t : Two) (x : Int) : List (List Int) := if twoOk t && hasAt t.a x then rightOf (uns (readF t.a x)) (uns (readF t.b x)) else []
theorem right_no1 {t : Two} {x : Int} (h : twoOk t = false) : rightF t x = [] := by simp [rightF, h]
theorem right_no2 {t : Two} {x : Int} (h : hasAt t.a x = false) : rightF t x = [] := by simp [rightF, h]
theorem right_yes {t : Two} {x : Int} (h : twoOk t = true) (h2 : hasAt t.a x = true) : rightF t x = rightOf (uns (readF t.a x)) (uns (readF t.b x)) := by simp [rightF, h, h2]
theorem hands_disks : Hands Tryz.prog 30 4 [0, 1, 2, 3] := fun us h => by
 match us, h with
 | [x1, x2, x3, x4], _ => exact c_disks x1 x2 x3 x4
theorem hands_twoOf : Hands Tryz.prog 32 4 [0, 1, 2, 3] := fun us h => by
 match us, h with
 | [x1, x2, x3, x4], _ => exact c_twoOf x1 x2 x3 x4
theorem c_RightAt (t : Two) (x : Int) : Pure Tryz.prog 27 [many (twoC t), one (iC x)] [one' (rowsR (rightF t x))] := by
 refine pure_intro (N := 70) Tryz.func27 rfl rfl rfl rfl (fun H w => ?_)
 refine sq (rg (evl_e (e_box rfl rfl rfl rfl) (xs rfl rfl (nl (et (sq (rg (evl_e (e_lit ttOk rfl rfl rfl) (xs rfl rfl (nl (et (sq (sq (rg (xl ttOk rfl rfl (evl_call (nm := 16) (cf rfl) (c_TwoOk ⟨⟨_, _⟩, ⟨_, _⟩⟩) (rs_of rfl) rfl rfl rfl (xo (q_not rfl) rfl (xm rfl rfl (evl_partn rfl rfl (fun h1 => ?_) (fun h1 => ?_))))))))))))))))))))
 refine gn (nt h1) rfl rfl rfl (gn (nt h1) rfl rfl rfl (gn (nt h1) rfl rfl rfl (gn (nt h1) rfl rfl rfl (gn (nt h1) rfl rfl rfl (xo (q_pick_t rfl (nt h1) rfl) rfl (nl (et (ev_cond_kt rfl rfl (sq (rg (xm rfl rfl (xs rfl rfl (nl (et (ev_ret (evr_then (ret_pure' ttOk rfl rfl ?_)))))))))))))))))
 rotate_left
 refine go (nf h1) rfl rfl (q_fieldAddr ttOk rfl) rfl (go (nf h1) rfl rfl (q_load ttOk rfl) rfl (gm (nf h1) rfl rfl rfl rfl (evl_callg rfl rfl (nf h1) (nm := 22) (cf rfl) (c_l3Has t.a _) (rs_of rfl) rfl rfl rfl (go (nf h1) rfl rfl (q_not rfl) rfl (xo (q_pick_f rfl (nf h1) rfl) rfl (nl (et (ev_cond_n rfl (fun h2 => ?_) (fun h2 => ?_)))))))))
 refine sq (rg (xm rfl rfl (xs rfl rfl (nl (et (ev_ret (evr_then (ret_pure' ttOk rfl rfl ?_))))))))
 rotate_left
 refine ev_skip (et (sq (rg (xf ttOk rfl rfl (xl ttOk rfl rfl (xm rfl rfl ?_))))))
 first | refine evl_call (nm := 30) (cf rfl) (c_ReadAt t.a _) (rs_of rfl) rfl rfl rfl ?_ | refine evl_call (nm := 30) (cf rfl) (c_ReadAt t.b _) (rs_of rfl) rfl rfl rfl ?_
 refine xm rfl rfl (xo (q_ext rfl) rfl (xo (q_ext rfl) rfl (xs rfl rfl (xs rfl rfl (nl (et (sq (rg (xf ttOk rfl rfl (xl ttOk rfl rfl (xm rfl rfl ?_)))))))))))
 first | refine evl_call (nm := 37) (cf rfl) (c_ReadAt t.a _) (rs_of rfl) rfl rfl rfl ?_ | refine evl_call (nm := 37) (cf rfl) (c_ReadAt t.b _) (rs_of rfl) rfl rfl rfl ?_
 refine xm rfl rfl (xo (q_ext rfl) rfl (xo (q_ext rfl) rfl (xs rfl rfl (xs rfl rfl (nl (et (sq (rg (xm rfl rfl (evl_call (nm := 42) (cf rfl) (c_Unsummed _) (rs_of rfl) rfl rfl rfl (xm rfl rfl (xo (q_ext rfl) rfl (xo (q_ext rfl) rfl (xs rfl rfl (xs rfl rfl (nl (et (sq (rg (xm rfl rfl (evl_call (nm := 47) (cf rfl) (c_Unsummed _) (rs_of rfl) rfl rfl rfl (xm rfl rfl (xo (q_ext rfl) rfl (xo (q_ext rfl) rfl (xs rfl rfl (xs rfl rfl (nl (et (sq (sq (rg (xm rfl rfl (nl (et (ev_cond rfl (fun h3 => ?_) (fun h3 => ?_))))))))))))))))))))))))))))))))))))
 refine rg (xm rfl rfl (xm rfl rfl (evl_e (e_lit1 ttOk rfl rfl rfl (s0 := 10) (i0 := 0) (j0 := 0) rfl rfl rfl) (evl_e (e_app1 ttOk rfl rfl rfl rfl rfl rfl rfl (by first | simp | decide) rfl rfl (s0 := 10) rfl) (xs rfl rfl (nl (et (sq (sq (rg (xm rfl rfl (xm rfl rfl (evl_part rfl rfl (fun h4 => ?_) (fun h4 => ?_))))))))))))))
 refine gm h4 rfl rfl rfl rfl (gm h4 rfl rfl rfl rfl (gm h3 rfl rfl rfl rfl (gm h3 rfl rfl rfl rfl (evl_callg rfl rfl h3 (nm := 61) (cf rfl) (c_SameRow _ _) (rs_of rfl) rfl rfl rfl (go h4 rfl rfl (q_pick_t rfl h3 rfl) rfl (go h4 rfl rfl (q_not rfl) rfl (xo (q_pick_t rfl h4 rfl) rfl (nl (et (ev_cond_n rfl (fun h5 => ?_) (fun h5 => ?_)))))))))))
 refine rg (xm rfl rfl (xm rfl rfl (evl_e (e_lit ttOk rfl rfl rfl) (evl_e (e_app ttOk rfl rfl rfl rfl rfl rfl rfl (by first | (simp; done) | (simp; omega)) rfl rfl) (xs rfl rfl (nl (et (sq (rg (xm rfl rfl (xs rfl rfl (nl (et (ev_ret (ret_pure' ttOk rfl rfl ?_)))))))))))))))
 rotate_left
 refine ev_skip (et (sq (rg (xm rfl rfl (xs rfl rfl (nl (et (ev_ret (ret_pure' ttOk rfl rfl ?_)))))))))
 rotate_left
 refine gn h4 rfl rfl rfl (gn h4 rfl rfl rfl (gu rfl rfl rfl (gu rfl rfl rfl (gu rfl rfl rfl (gn h4 rfl rfl rfl (gn h4 rfl rfl rfl (xo (q_pick_f rfl h4 rfl) rfl (nl (et (ev_cond_kf rfl rfl (ev_skip (et (sq (rg (xm rfl rfl (xs rfl rfl (nl (et (ev_ret (ret_pure' ttOk rfl rfl ?_))))))))))))))))))))
 rotate_left
 refine ev_skip (et (sq (sq (rg (xm rfl rfl (xm rfl rfl (evl_part rfl rfl (fun h6 => ?_) (fun h6 => ?_))))))))
 refine gm h6 rfl rfl rfl rfl (gm h6 rfl rfl rfl rfl (gn h3 rfl rfl rfl (gn h3 rfl rfl rfl (gn h3 rfl rfl rfl (go h6 rfl rfl (q_pick_f rfl h3 rfl) rfl (go h6 rfl rfl (q_notL rfl) rfl (xo (q_pick_t rfl h6 rfl) rfl (nl (et (ev_cond_kt rfl rfl (rg (xm rfl rfl (xm rfl rfl (evl_e (e_lit ttOk rfl rfl rfl) (evl_e (e_app ttOk rfl rfl rfl rfl rfl rfl rfl (by first | (simp; done) | (simp; omega)) rfl rfl) (xs rfl rfl (nl (et (sq (rg (xm rfl rfl (xs rfl rfl (nl (et (ev_ret (ret_pure' ttOk rfl rfl ?_))))))))))))))))))))))))))
 rotate_left
 refine gn h6 rfl rfl rfl (gn h6 rfl rfl rfl (gu rfl rfl rfl (gu rfl rfl rfl (gu rfl rfl rfl (gn h6 rfl rfl rfl (gn h6 rfl rfl rfl (xo (q_pick_f rfl h6 rfl) rfl (nl (et (ev_cond_kf rfl rfl (ev_skip (et (sq (rg (xm rfl rfl (xs rfl rfl (nl (et (ev_ret (ret_pure' ttOk rfl rfl ?_))))))))))))))))))))
 rotate_left
 all_goals
  first
  | (rw [right_no1 ‹_›]; rfl)
  | (rw [right_no2 ‹_›]; rfl)
  | (rw [right_yes ‹_› ‹_›]; simp only [rightOf, uns]; generalize unsF ((readF t.a x).getD []) = oa at *; generalize unsF ((readF t.b x).getD []) = ob at *; cases oa <;> cases ob <;> simp_all)
def rightUp (t : Two) (x : Int) : Nat → List (List Int)
 | 0 => []
 | 1 => (uns (readF t.a x)).toList
 | _ => rightOf (uns (readF t.a x)) (uns (readF t.b x))
theorem right_arm {k : Nat} (hk : (k : Int) < 2) (t : Two) (x : Int) : k = 0 ∨ (k = 1 ∧ uns (readF t.a x) = none) ∨ (k = 1 ∧ ∃ ra, uns (readF t.a x) = some ra) := by
 rcases (by omega : k = 0 ∨ k = 1) with rfl | rfl
 ·exact .inl rfl
 ·cases h : uns (readF t.a x) with
  | none => exact .inr (.inl ⟨rfl, rfl⟩)
  | some ra => exact .inr (.inr ⟨rfl, ra, rfl⟩)
theorem c_RightAt' (t : Two) (x : Int) : Pure Tryz.prog 46 [many (twoC t), one (iC x)] [one' (rowsR (rightF t x))] := by
 refine pure_intro (N := 59) Tryz.func46 rfl rfl rfl rfl (fun H w => ?_)
 refine sq (rg (evl_e (e_box rfl rfl rfl rfl) (xs rfl rfl (nl (et (sq (sq (rg ?_))))))))
 first | refine xo (q_load_pr ttOk rfl rfl rfl rfl rfl rfl rfl) rfl ?_ | refine xl ttOk rfl rfl ?_
 refine evl_call (nm := 13) (cf rfl) (c_TwoOk' ⟨⟨_, _⟩, ⟨_, _⟩⟩) (rs_of rfl) rfl rfl rfl (xo (q_not rfl) rfl (xm rfl rfl (evl_partn rfl rfl (fun h1 => ?_) (fun h1 => ?_))))
 ·refine gn (nt h1) rfl rfl rfl (gn (nt h1) rfl rfl rfl (gn (nt h1) rfl rfl rfl (gn (nt h1) rfl rfl rfl (gn (nt h1) rfl rfl rfl (xo (q_pick_t rfl (nt h1) rfl) rfl (nl (et (ev_cond_kt rfl rfl (sq (rg (xs rfl rfl (nl (et (ev_ret (evr_then (ret_pureN ttOk rfl rfl ?_))))))))))))))))
  rw [right_no1 ‹_›]; simp [RpLe, L2, RcLe]
 ·refine go (nf h1) rfl rfl (q_fieldAddr ttOk rfl) rfl ?_
  first | refine go (nf h1) rfl rfl (q_load_pr ttOk rfl rfl rfl rfl rfl rfl rfl) rfl ?_ | refine go (nf h1) rfl rfl (q_load ttOk rfl) rfl ?_
  refine gm (nf h1) rfl rfl rfl rfl (evl_callg rfl rfl (nf h1) (nm := 19) (cf rfl) (c_sectorOk t.a _) (rs_of rfl) rfl rfl rfl (go (nf h1) rfl rfl (q_not rfl) rfl (xo (q_pick_f rfl (nf h1) rfl) rfl (nl (et (ev_cond_n rfl (fun h2 => ?_) (fun h2 => ?_)))))))
  ·refine sq (rg (xs rfl rfl (nl (et (ev_ret (evr_then (ret_pureN ttOk rfl rfl ?_)))))))
   rw [right_no2 ‹_›]; simp [RpLe, L2, RcLe]
  ·refine ev_skip (et (sq (rg (evl_e (e_lit ttOk rfl rfl rfl) (xs rfl rfl (nl (et (sq (sq (rg ?_))))))))))
   first | refine xo (q_load_pr ttOk rfl rfl rfl rfl rfl rfl rfl) rfl ?_ | refine xl ttOk rfl rfl ?_
   refine evl_callv (cf rfl) hands_disks rfl rfl rfl rfl (xm rfl rfl (nl (et (ev_blk (ev_loop (fun k : Nat => (⟨[(25, iV k), (24, .p true [.c (rows t.a.kept), .c (writes t.a.wait), .c (rows t.b.kept), .c (writes t.b.wait)]), (1, iV x), (5, .p false [.rt 101])], [], [(101, 45, 1, ((rightUp t x k).map fun r => [ints r]))], []⟩ : St)) (fun k => k ≤ 2) (fun k => 2 - k) 0 [(101, 22)] (by simp) ⟨trf, trf, ⟨⟨_, rfl, by rfl⟩, trivial⟩, tre, rfl⟩ ?_)))))
   intro k hp
   have p0 := hp
   show Ev _ _ _ _ (⟨[(25, iV k), (24, .p true [.c (rows t.a.kept), .c (writes t.a.wait), .c (rows t.b.kept), .c (writes t.b.wait)]), (1, iV x), (5, .p false [.rt 101])], [], [(101, 45, 1, ((rightUp t x k).map fun r => [ints r]))], []⟩ : St)
   refine sq (rg (xb ttOk rfl rfl (nl (et (sq (ev_cond rfl (fun h3 => ?_) (fun h3 => ?_)))))))
   ·have d3 := of_decide_eq_true h3
    refine ev_skip (et (sq (ev_blk ?_)))
    obtain rfl | ⟨rfl, hoa⟩ | ⟨rfl, ra, hoa⟩ := right_arm d3 t x
    ·refine sq (rg ?_)
     first | refine xo (q_index 0 ttOk rfl rfl om) rfl ?_ | refine xo (q_index 1 ttOk rfl rfl om) rfl ?_
     refine evl_e (e_alloc ttOk rfl rfl rfl rfl) (xst ttOk rfl rfl (nl (et (sq (rg ?_)))))
     first | refine xo (q_load_pr ttOk rfl rfl rfl rfl rfl rfl rfl) rfl ?_ | refine xl ttOk rfl rfl ?_
     refine xm rfl rfl ?_
     first | refine evl_call (nm := 31) (cf rfl) (c_ReadAt' t.a _) (rs_of rfl) rfl rfl rfl ?_ | refine evl_call (nm := 31) (cf rfl) (c_ReadAt' t.b _) (rs_of rfl) rfl rfl rfl ?_
     refine xm rfl rfl (xo (q_ext rfl) rfl (xo (q_ext rfl) rfl (xs rfl rfl (xs rfl rfl (nl (et (sq (rg (xm rfl rfl (evl_call (nm := 36) (cf rfl) (c_Unsummed' _) (rs_of rfl) rfl rfl rfl (xm rfl rfl (xo (q_ext rfl) rfl (xo (q_ext rfl) rfl (xs rfl rfl (xs rfl rfl (nl (et (sq (rg (xm rfl rfl (xm rfl rfl (evl_part rfl rfl (fun h4 => ?_) (fun h4 => ?_)))))))))))))))))))))))
     ·refine gm h4 rfl rfl rfl rfl ?_
      first | refine go h4 rfl rfl (q_len_rtm ttOk rfl rfl rfl) rfl ?_ | refine go h4 rfl rfl (q_len_rt ttOk rfl rfl rfl) rfl ?_
      refine go h4 rfl rfl (q_bin ttOk rfl) rfl (gm h4 rfl rfl rfl rfl (gn rfl rfl rfl rfl (gn rfl rfl rfl rfl (gn rfl rfl rfl rfl (gn rfl rfl rfl rfl (gn rfl rfl rfl rfl (gn rfl rfl rfl rfl (go h4 rfl rfl (q_pick_t rfl rfl rfl) rfl (xo (q_pick_t rfl h4 rfl) rfl (nl (et (ev_cond_kt rfl rfl (rg (xm rfl rfl (xm rfl rfl (evl_e (e_lit ttOk rfl rfl rfl) (evl_e (e_app ttOk rfl rfl rfl rfl rfl rfl rfl (by first | (simp; done) | (simp [rightUp]; done) | (simp; omega)) rfl rfl) (xs rfl rfl (nl (eb (et (rg (xa rfl rfl rfl om rfl (xm rfl rfl (nl (eve_round (1) [(101, 56)] ?hp ⟨trf, trf, ⟨⟨_, rfl, by (first | rfl | (simp only [rightUp, rightOf, uns] at *; generalize unsF ((readF t.a x).getD []) = oa at *; generalize unsF ((readF t.b x).getD []) = ob at *; cases oa <;> cases ob <;> simp_all))⟩, trivial⟩, tre, rfl⟩))))))))))))))))))))))))))
      case hp => exact ⟨by omega, by omega⟩
     ·refine gn h4 rfl rfl rfl (gn h4 rfl rfl rfl (gn h4 rfl rfl rfl (gn h4 rfl rfl rfl (gu rfl rfl rfl (gu rfl rfl rfl (gu rfl rfl rfl (gu rfl rfl rfl (gu rfl rfl rfl (gu rfl rfl rfl (gn h4 rfl rfl rfl (xo (q_pick_f rfl h4 rfl) rfl (nl (et (ev_cond_kf rfl rfl (ev_skip (eb (et (rg (xa rfl rfl rfl om rfl (xm rfl rfl (nl (eve_round (1) [] ?hp ⟨trf, trf, ⟨⟨_, rfl, by (first | rfl | (simp only [rightUp, rightOf, uns] at *; generalize unsF ((readF t.a x).getD []) = oa at *; generalize unsF ((readF t.b x).getD []) = ob at *; cases oa <;> cases ob <;> simp_all))⟩, trivial⟩, tre, rfl⟩))))))))))))))))))))))
      case hp => exact ⟨by omega, by omega⟩
    ·refine sq ?_
     rw [show ((rightUp t x 1).map fun r => [ints r]) = [] by simp [rightUp, hoa]]
     refine rg ?_
     first | refine xo (q_index 0 ttOk rfl rfl om) rfl ?_ | refine xo (q_index 1 ttOk rfl rfl om) rfl ?_
     refine evl_e (e_alloc ttOk rfl rfl rfl rfl) (xst ttOk rfl rfl (nl (et (sq (rg ?_)))))
     first | refine xo (q_load_pr ttOk rfl rfl rfl rfl rfl rfl rfl) rfl ?_ | refine xl ttOk rfl rfl ?_
     refine xm rfl rfl ?_
     first | refine evl_call (nm := 31) (cf rfl) (c_ReadAt' t.a _) (rs_of rfl) rfl rfl rfl ?_ | refine evl_call (nm := 31) (cf rfl) (c_ReadAt' t.b _) (rs_of rfl) rfl rfl rfl ?_
     refine xm rfl rfl (xo (q_ext rfl) rfl (xo (q_ext rfl) rfl (xs rfl rfl (xs rfl rfl (nl (et (sq (rg (xm rfl rfl (evl_call (nm := 36) (cf rfl) (c_Unsummed' _) (rs_of rfl) rfl rfl rfl (xm rfl rfl (xo (q_ext rfl) rfl (xo (q_ext rfl) rfl (xs rfl rfl (xs rfl rfl (nl (et (sq (rg (xm rfl rfl (xm rfl rfl (evl_part rfl rfl (fun h5 => ?_) (fun h5 => ?_)))))))))))))))))))))))
     ·refine gm h5 rfl rfl rfl rfl ?_
      first | refine go h5 rfl rfl (q_len_rtm ttOk rfl rfl rfl) rfl ?_ | refine go h5 rfl rfl (q_len_rt ttOk rfl rfl rfl) rfl ?_
      refine go h5 rfl rfl (q_bin ttOk rfl) rfl (gm h5 rfl rfl rfl rfl (gn rfl rfl rfl rfl (gn rfl rfl rfl rfl (gn rfl rfl rfl rfl (gn rfl rfl rfl rfl (gn rfl rfl rfl rfl (gn rfl rfl rfl rfl (go h5 rfl rfl (q_pick_t rfl rfl rfl) rfl (xo (q_pick_t rfl h5 rfl) rfl (nl (et (ev_cond_kt rfl rfl (rg (xm rfl rfl (xm rfl rfl (evl_e (e_lit ttOk rfl rfl rfl) (evl_e (e_app ttOk rfl rfl rfl rfl rfl rfl rfl (by first | (simp; done) | (simp [rightUp]; done) | (simp; omega)) rfl rfl) (xs rfl rfl (nl (eb (et (rg (xa rfl rfl rfl om rfl (xm rfl rfl (nl (eve_round (2) [(101, 56)] ?hp ⟨trf, trf, ⟨⟨_, rfl, by (first | rfl | (simp only [rightUp, rightOf, uns] at *; generalize unsF ((readF t.a x).getD []) = oa at *; generalize unsF ((readF t.b x).getD []) = ob at *; cases oa <;> cases ob <;> simp_all))⟩, trivial⟩, tre, rfl⟩))))))))))))))))))))))))))
      case hp => exact ⟨by omega, by omega⟩
     ·refine gn h5 rfl rfl rfl (gn h5 rfl rfl rfl (gn h5 rfl rfl rfl (gn h5 rfl rfl rfl (gu rfl rfl rfl (gu rfl rfl rfl (gu rfl rfl rfl (gu rfl rfl rfl (gu rfl rfl rfl (gu rfl rfl rfl (gn h5 rfl rfl rfl (xo (q_pick_f rfl h5 rfl) rfl (nl (et (ev_cond_kf rfl rfl (ev_skip (eb (et (rg (xa rfl rfl rfl om rfl (xm rfl rfl (nl (eve_round (2) [] ?hp ⟨trf, trf, ⟨⟨_, rfl, by (first | rfl | (simp only [rightUp, rightOf, uns] at *; generalize unsF ((readF t.a x).getD []) = oa at *; generalize unsF ((readF t.b x).getD []) = ob at *; cases oa <;> cases ob <;> simp_all))⟩, trivial⟩, tre, rfl⟩))))))))))))))))))))))
      case hp => exact ⟨by omega, by omega⟩
    ·refine sq ?_
     rw [show ((rightUp t x 1).map fun r => [ints r]) = [[ints ra]] by simp [rightUp, hoa]]
     refine rg ?_
     first | refine xo (q_index 0 ttOk rfl rfl om) rfl ?_ | refine xo (q_index 1 ttOk rfl rfl om) rfl ?_
     refine evl_e (e_alloc ttOk rfl rfl rfl rfl) (xst ttOk rfl rfl (nl (et (sq (rg ?_)))))
     first | refine xo (q_load_pr ttOk rfl rfl rfl rfl rfl rfl rfl) rfl ?_ | refine xl ttOk rfl rfl ?_
     refine xm rfl rfl ?_
     first | refine evl_call (nm := 31) (cf rfl) (c_ReadAt' t.a _) (rs_of rfl) rfl rfl rfl ?_ | refine evl_call (nm := 31) (cf rfl) (c_ReadAt' t.b _) (rs_of rfl) rfl rfl rfl ?_
     refine xm rfl rfl (xo (q_ext rfl) rfl (xo (q_ext rfl) rfl (xs rfl rfl (xs rfl rfl (nl (et (sq (rg (xm rfl rfl (evl_call (nm := 36) (cf rfl) (c_Unsummed' _) (rs_of rfl) rfl rfl rfl (xm rfl rfl (xo (q_ext rfl) rfl (xo (q_ext rfl) rfl (xs rfl rfl (xs rfl rfl (nl (et (sq (rg (xm rfl rfl (xm rfl rfl (evl_part rfl rfl (fun h6 => ?_) (fun h6 => ?_)))))))))))))))))))))))
     ·refine gm h6 rfl rfl rfl rfl ?_
      first | refine go h6 rfl rfl (q_len_rtm ttOk rfl rfl rfl) rfl ?_ | refine go h6 rfl rfl (q_len_rt ttOk rfl rfl rfl) rfl ?_
      refine go h6 rfl rfl (q_bin ttOk rfl) rfl (gm h6 rfl rfl rfl rfl (gm rfl rfl rfl rfl rfl (go rfl rfl rfl (q_ix_rt (m := 0) ttOk rfl rfl rfl rfl rfl rfl (by simp)) rfl ?_)))
      first | refine go rfl rfl rfl (q_load_pr ttOk rfl rfl rfl rfl rfl rfl rfl) rfl ?_ | refine go rfl rfl rfl (q_load ttOk rfl) rfl ?_
      refine gm rfl rfl rfl rfl rfl (evl_callg rfl rfl rfl (nm := 49) (cf rfl) (c_SameRow' _ _) (rs_of rfl) rfl rfl rfl (go rfl rfl rfl (q_not rfl) rfl (go h6 rfl rfl (q_pick_f rfl rfl rfl) rfl (xo (q_pick_t rfl h6 rfl) rfl (nl (et (ev_cond_n rfl (fun h7 => ?_) (fun h7 => ?_))))))))
      ·refine rg (xm rfl rfl (xm rfl rfl (evl_e (e_lit ttOk rfl rfl rfl) (evl_e (e_app ttOk rfl rfl rfl rfl rfl rfl rfl (by first | (simp; done) | (simp [rightUp]; done) | (simp; omega)) rfl rfl) (xs rfl rfl (nl (eb (et (rg (xa rfl rfl rfl om rfl (xm rfl rfl (nl (eve_round (2) [(101, 56)] ?hp ⟨trf, trf, ⟨⟨_, rfl, by (first | rfl | (simp only [rightUp, rightOf, uns] at *; generalize unsF ((readF t.a x).getD []) = oa at *; generalize unsF ((readF t.b x).getD []) = ob at *; cases oa <;> cases ob <;> simp_all))⟩, trivial⟩, tre, rfl⟩)))))))))))))
       case hp => exact ⟨by omega, by omega⟩
      ·refine ev_skip (eb (et (rg (xa rfl rfl rfl om rfl (xm rfl rfl (nl (eve_round (2) [] ?hp ⟨trf, trf, ⟨⟨_, rfl, by (first | rfl | (simp only [rightUp, rightOf, uns] at *; generalize unsF ((readF t.a x).getD []) = oa at *; generalize unsF ((readF t.b x).getD []) = ob at *; cases oa <;> cases ob <;> simp_all))⟩, trivial⟩, tre, rfl⟩)))))))
       case hp => exact ⟨by omega, by omega⟩
     ·refine gn h6 rfl rfl rfl (gn h6 rfl rfl rfl (gn h6 rfl rfl rfl (gn h6 rfl rfl rfl (gu rfl rfl rfl (gu rfl rfl rfl (gu rfl rfl rfl (gu rfl rfl rfl (gu rfl rfl rfl (gu rfl rfl rfl (gn h6 rfl rfl rfl (xo (q_pick_f rfl h6 rfl) rfl (nl (et (ev_cond_kf rfl rfl (ev_skip (eb (et (rg (xa rfl rfl rfl om rfl (xm rfl rfl (nl (eve_round (2) [] ?hp ⟨trf, trf, ⟨⟨_, rfl, by (first | rfl | (simp only [rightUp, rightOf, uns] at *; generalize unsF ((readF t.a x).getD []) = oa at *; generalize unsF ((readF t.b x).getD []) = ob at *; cases oa <;> cases ob <;> simp_all))⟩, trivial⟩, tre, rfl⟩))))))))))))))))))))))
      case hp => exact ⟨by omega, by omega⟩
   ·have d3 := of_decide_eq_false h3
    refine ev_exit (evx_then (evx_then (evx_hit (et (sq (rg (xm rfl rfl (xs rfl rfl (nl (et (ev_ret (ret_pure' ttOk rfl rfl ?_))))))))))))
    obtain rfl : k = 2 := by omega
    rw [right_yes ‹_› ‹_›]; rfl
end Go.Proofs.YtahkjonokeifmaaGreat
