/- Walks of functions of the program, printed by a program of the prover. -/
import Derived.Test.YtinmcdcmidlgpaaGreatDoorAkF5
import Derived.Test.YtinmcdcmidlgpaaGreatDoorAkVM
namespace Go.Proofs.YtinmcdcmidlgpaaGreatDoor
open Go.ChangeShapes Go.WideShapes Go.ChangeAt Go.RowKit
set_option linter.unusedVariables false
set_option linter.unusedSimpArgs false
set_option maxHeartbeats 1000000
set_option maxRecDepth 100000
attribute [local irreducible] EvL Ev EvE Quiet Eff Pure RDk RDb RDo
theorem diskOk_sizes {d : Disk} (h : diskOk d = true) : d.kept.length ≤ 40 ∧ d.wait.length ≤ 60 ∧ 1 ≤ d.kept.length ∧ (∀ r ∈ d.kept, rowOk r = true) ∧ ∀ x ∈ d.wait, writeOk d x = true := by
 simp only [diskOk, Bool.and_eq_true, decide_eq_true_eq, List.all_eq_true] at h
 exact ⟨h.2.1, h.2.2.1, h.1, h.2.2.2.1, h.2.2.2.2⟩
theorem twoOk_both {t : Two} (h : twoOk t = true) : diskOk t.a = true ∧ diskOk t.b = true := by
 simp only [twoOk, Bool.and_eq_true] at h
 exact ⟨h.1, h.2.1⟩
theorem kept_len {d : Disk} (h : diskOk d = true) {k : Nat} (hk : k < d.kept.length) : d.kept[k].length ≤ 48 := (rowOk_nums ((diskOk_sizes h).2.2.2.1 _ (List.getElem_mem hk))).1
theorem wait_len {d : Disk} (h : diskOk d = true) {k : Nat} (hk : k < d.wait.length) : d.wait[k].2.length ≤ 48 := by
 have := (diskOk_sizes h).2.2.2.2 _ (List.getElem_mem hk)
 simp only [writeOk, Bool.and_eq_true] at this
 exact (rowOk_nums this.2).1
theorem map_next {α β : Type} {f : α → β} {l : List α} {k : Nat} (hk : k < l.length) : (l.take k).map f ++ [f l[k]] = (l.take (k + 1)).map f := by
 rw [List.take_succ_eq_append_getElem hk, List.map_append]; rfl
theorem take_end {α : Type} {l : List α} {k : Nat} (hk : ¬ k < l.length) : l.take k = l := List.take_of_length_le om
@[reducible] def rowsR (l : List (List Int)) : RC := .s 74 1 (l.map fun r => [ints r])
@[reducible] def writesR (l : List (Int × List Int)) : RC := .s 212 2 (l.map fun x => [iC x.1, ints x.2])
@[reducible] def diskR (d : Disk) : List RC := [rowsR d.kept, writesR d.wait]
@[reducible] def twoR (t : Two) : List RC := [rowsR t.a.kept, writesR t.a.wait, rowsR t.b.kept, writesR t.b.wait]
theorem c_TwoOk (t : Two) : Pure Tryz.prog 177 [many (twoC t)] (bR (twoOk t)) := by
 refine pure_intro (N := 22) Tryz.func177 rfl rfl rfl rfl (fun H w => ?_)
 refine sq (rg (evl_e (e_box rfl rfl rfl rfl) (xs rfl rfl (nl (et (sq (rg (xf ttOk rfl rfl (xl ttOk rfl rfl (evl_call (nm := 5) (cf rfl) (c_DiskOk ⟨_, _⟩) (rs_of rfl) rfl rfl rfl (xm rfl rfl (evl_part rfl rfl (fun h1 => ?_) (fun h1 => ?_)))))))))))))
 ·refine go h1 rfl rfl (q_fieldAddr ttOk rfl) rfl (go h1 rfl rfl (q_load ttOk rfl) rfl (evl_callg rfl rfl h1 (nm := 9) (cf rfl) (c_DiskOk ⟨_, _⟩) (rs_of rfl) rfl rfl rfl (xo (q_pick_t rfl h1 rfl) rfl (xm rfl rfl (evl_part rfl rfl (fun h2 => ?_) (fun h2 => ?_))))))
  ·refine go h2 rfl rfl (q_fieldAddr ttOk rfl) rfl (go h2 rfl rfl (q_fieldAddr ttOk rfl) rfl (go h2 rfl rfl (q_load ttOk rfl) rfl (go h2 rfl rfl (q_len_map ttOk rfl rfl) rfl (go h2 rfl rfl (q_fieldAddr ttOk rfl) rfl (go h2 rfl rfl (q_fieldAddr ttOk rfl) rfl (go h2 rfl rfl (q_load ttOk rfl) rfl (go h2 rfl rfl (q_len_map ttOk rfl rfl) rfl (go h2 rfl rfl (q_bin ttOk rfl) rfl (xo (q_pick_t rfl h2 rfl) rfl (xs rfl rfl (nl (et (ev_ret (ret_pure' ttOk rfl rfl (congrArg bR (?_ : _ = _))))))))))))))))
   simp [twoOk, h1, h2]; omega
  ·refine gn h2 rfl rfl rfl (gn h2 rfl rfl rfl (gn h2 rfl rfl rfl (gn h2 rfl rfl rfl (gn h2 rfl rfl rfl (gn h2 rfl rfl rfl (gn h2 rfl rfl rfl (gn h2 rfl rfl rfl (gn h2 rfl rfl rfl (xo (q_pick_f rfl h2 rfl) rfl (xs rfl rfl (nl (et (ev_ret (ret_pure' ttOk rfl rfl (congrArg bR (?_ : _ = _))))))))))))))))
   simp [twoOk, h1, h2]
 ·refine gn h1 rfl rfl rfl (gn h1 rfl rfl rfl (gn h1 rfl rfl rfl (xo (q_pick_f rfl h1 rfl) rfl (xm rfl rfl (gn rfl rfl rfl rfl (gn rfl rfl rfl rfl (gn rfl rfl rfl rfl (gn rfl rfl rfl rfl (gn rfl rfl rfl rfl (gn rfl rfl rfl rfl (gn rfl rfl rfl rfl (gn rfl rfl rfl rfl (gn rfl rfl rfl rfl (xo (q_pick_f rfl rfl rfl) rfl (xs rfl rfl (nl (et (ev_ret (ret_pure' ttOk rfl rfl (congrArg bR (?_ : _ = _)))))))))))))))))))))
  simp [twoOk, h1]
theorem c_TwoOk' (t : Two) : Pure Tryz.prog 167 [many (twoC t)] (bR (twoOk t)) := by
 refine pure_intro (N := 22) Tryz.func167 rfl rfl rfl rfl (fun H w => ?_)
 refine sq (rg (evl_e (e_box rfl rfl rfl rfl) (xs rfl rfl (nl (et (sq (rg (xf ttOk rfl rfl (xl ttOk rfl rfl (evl_call (nm := 5) (cf rfl) (c_DiskOk' ⟨_, _⟩) (rs_of rfl) rfl rfl rfl (xm rfl rfl (evl_part rfl rfl (fun h1 => ?_) (fun h1 => ?_)))))))))))))
 ·refine go h1 rfl rfl (q_fieldAddr ttOk rfl) rfl (go h1 rfl rfl (q_load ttOk rfl) rfl (evl_callg rfl rfl h1 (nm := 9) (cf rfl) (c_DiskOk' ⟨_, _⟩) (rs_of rfl) rfl rfl rfl (xo (q_pick_t rfl h1 rfl) rfl (xm rfl rfl (evl_part rfl rfl (fun h2 => ?_) (fun h2 => ?_))))))
  ·refine go h2 rfl rfl (q_fieldAddr ttOk rfl) rfl (go h2 rfl rfl (q_fieldAddr ttOk rfl) rfl (go h2 rfl rfl (q_load ttOk rfl) rfl (go h2 rfl rfl (q_len_map ttOk rfl rfl) rfl (go h2 rfl rfl (q_fieldAddr ttOk rfl) rfl (go h2 rfl rfl (q_fieldAddr ttOk rfl) rfl (go h2 rfl rfl (q_load ttOk rfl) rfl (go h2 rfl rfl (q_len_map ttOk rfl rfl) rfl (go h2 rfl rfl (q_bin ttOk rfl) rfl (xo (q_pick_t rfl h2 rfl) rfl (xs rfl rfl (nl (et (ev_ret (ret_pure' ttOk rfl rfl (congrArg bR (?_ : _ = _))))))))))))))))
   simp [twoOk, h1, h2]; omega
  ·refine gn h2 rfl rfl rfl (gn h2 rfl rfl rfl (gn h2 rfl rfl rfl (gn h2 rfl rfl rfl (gn h2 rfl rfl rfl (gn h2 rfl rfl rfl (gn h2 rfl rfl rfl (gn h2 rfl rfl rfl (gn h2 rfl rfl rfl (xo (q_pick_f rfl h2 rfl) rfl (xs rfl rfl (nl (et (ev_ret (ret_pure' ttOk rfl rfl (congrArg bR (?_ : _ = _))))))))))))))))
   simp [twoOk, h1, h2]
 ·refine gn h1 rfl rfl rfl (gn h1 rfl rfl rfl (gn h1 rfl rfl rfl (xo (q_pick_f rfl h1 rfl) rfl (xm rfl rfl (gn rfl rfl rfl rfl (gn rfl rfl rfl rfl (gn rfl rfl rfl rfl (gn rfl rfl rfl rfl (gn rfl rfl rfl rfl (gn rfl rfl rfl rfl (gn rfl rfl rfl rfl (gn rfl rfl rfl rfl (gn rfl rfl rfl rfl (xo (q_pick_f rfl rfl rfl) rfl (xs rfl rfl (nl (et (ev_ret (ret_pure' ttOk rfl rfl (congrArg bR (?_ : _ = _)))))))))))))))))))))
  simp [twoOk, h1]
theorem c_KeptOk (t : Two) : Pure Tryz.prog 94 [many (twoC t)] (bR (keptOk t)) := by
 refine pure_intro (N := 12) Tryz.func94 rfl rfl rfl rfl (fun H w => ?_)
 refine sq (rg (evl_e (e_box rfl rfl rfl rfl) (xs rfl rfl (nl (et (sq (rg (xl ttOk rfl rfl (evl_call (nm := 4) (cf rfl) (c_TwoOk ⟨⟨_, _⟩, ⟨_, _⟩⟩) (rs_of rfl) rfl rfl rfl (xm rfl rfl (evl_part rfl rfl (fun h1 => ?_) (fun h1 => ?_))))))))))))
 ·refine go h1 rfl rfl (q_fieldAddr ttOk rfl) rfl (go h1 rfl rfl (q_fieldAddr ttOk rfl) rfl (go h1 rfl rfl (q_load ttOk rfl) rfl (go h1 rfl rfl (q_len_map ttOk rfl rfl) rfl (go h1 rfl rfl (q_bin ttOk rfl) rfl (xo (q_pick_t rfl h1 rfl) rfl (xs rfl rfl (nl (et (ev_ret (ret_pure' ttOk rfl rfl (congrArg bR (?_ : _ = _))))))))))))
  simp [keptOk, h1]; omega
 ·refine gn h1 rfl rfl rfl (gn h1 rfl rfl rfl (gn h1 rfl rfl rfl (gn h1 rfl rfl rfl (gn h1 rfl rfl rfl (xo (q_pick_f rfl h1 rfl) rfl (xs rfl rfl (nl (et (ev_ret (ret_pure' ttOk rfl rfl (congrArg bR (?_ : _ = _))))))))))))
  simp [keptOk, h1]
theorem c_KeptOk' (t : Two) : Pure Tryz.prog 114 [many (twoC t)] (bR (keptOk t)) := by
 refine pure_intro (N := 12) Tryz.func114 rfl rfl rfl rfl (fun H w => ?_)
 refine sq (rg (evl_e (e_box rfl rfl rfl rfl) (xs rfl rfl (nl (et (sq (rg (xl ttOk rfl rfl (evl_call (nm := 4) (cf rfl) (c_TwoOk' ⟨⟨_, _⟩, ⟨_, _⟩⟩) (rs_of rfl) rfl rfl rfl (xm rfl rfl (evl_part rfl rfl (fun h1 => ?_) (fun h1 => ?_))))))))))))
 ·refine go h1 rfl rfl (q_fieldAddr ttOk rfl) rfl (go h1 rfl rfl (q_fieldAddr ttOk rfl) rfl (go h1 rfl rfl (q_load ttOk rfl) rfl (go h1 rfl rfl (q_len_map ttOk rfl rfl) rfl (go h1 rfl rfl (q_bin ttOk rfl) rfl (xo (q_pick_t rfl h1 rfl) rfl (xs rfl rfl (nl (et (ev_ret (ret_pure' ttOk rfl rfl (congrArg bR (?_ : _ = _))))))))))))
  simp [keptOk, h1]; omega
 ·refine gn h1 rfl rfl rfl (gn h1 rfl rfl rfl (gn h1 rfl rfl rfl (gn h1 rfl rfl rfl (gn h1 rfl rfl rfl (xo (q_pick_f rfl h1 rfl) rfl (xs rfl rfl (nl (et (ev_ret (ret_pure' ttOk rfl rfl (congrArg bR (?_ : _ = _))))))))))))
  simp [keptOk, h1]
theorem c_l3Copy (d : Disk) (h : diskOk d = true) : Pure Tryz.prog 196 [many (diskC d)] [many' (diskR d)] := by
 refine pure_intro (N := 52) Tryz.func196 rfl rfl rfl rfl (fun H w => ?_)
 have hs := diskOk_sizes h
 refine sq (rg (evl_e (e_box rfl rfl rfl rfl) (evl_e (e_alloc ttOk rfl rfl rfl rfl) (nl (et (sq (rg (xo (q_build ttOk rfl) rfl (evl_e (e_alloc ttOk rfl rfl rfl rfl) (xst ttOk rfl rfl (nl (et (sq (sq (ev_adopt (b := 3) 0 101 74 1 rfl rfl rfl rfl rfl (ev_adopt (b := 3) 1 102 212 2 rfl rfl rfl rfl rfl (rg (xs rfl rfl (nl (et (ev_blk (ev_loop (fun k : Nat => (⟨[(4, iV k), (1, pbV 1 0), (3, pbV 3 0), (2, pbV 2 0)], [(3, 44, [.rt 101, .rt 102]), (2, 44, [.c .nil, .c .nil]), (1, 44, [.c (rows d.kept), .c (writes d.wait)])], [(101, 74, 1, ((d.kept.take k).map fun r => [ints r])), (102, 212, 2, [])], []⟩ : St)) (fun k => k ≤ d.kept.length) (fun k => d.kept.length - k) 0 [] (by simp) ⟨trf, trf, ⟨⟨_, rfl, by rfl⟩, ⟨_, rfl, by rfl⟩, trivial⟩, tre, rfl⟩ ?_))))))))))))))))))))))
 intro k hp
 have p0 := hp
 show Ev _ _ _ _ (⟨[(4, iV k), (1, pbV 1 0), (3, pbV 3 0), (2, pbV 2 0)], [(3, 44, [.rt 101, .rt 102]), (2, 44, [.c .nil, .c .nil]), (1, 44, [.c (rows d.kept), .c (writes d.wait)])], [(101, 74, 1, ((d.kept.take k).map fun r => [ints r])), (102, 212, 2, [])], []⟩ : St)
 refine sq (sq (rg (xm rfl rfl (xf ttOk rfl rfl (xl ttOk rfl rfl (xo (q_len_map ttOk rfl rfl) rfl (xb ttOk rfl rfl (nl (et (ev_cond rfl (fun h1 => ?_) (fun h1 => ?_)))))))))))
 ·have d1 := of_decide_eq_true h1
  refine ev_skip (et (sq (ev_blk ?_)))
  have hl := kept_len h (k := k) om
  refine ev_drawq [9, 11] mo (rk0 0 rfl (q_fieldAddr ttOk rfl) rfl (rk0 1 rfl (q_load ttOk rfl) rfl (rk0 2 rfl (q_fieldAddr ttOk rfl) rfl (rk0 3 rfl (q_load ttOk rfl) rfl (rk0 4 rfl (q_move rfl) rfl (rk0 5 rfl (q_ix_map ttOk rfl rfl rfl rfl om) rfl (rk0 6 rfl (q_load ttOk rfl) rfl (rdk_one 7 kr (rdo_call (nm := 21) rfl trivial (cf rfl) (c_l1Copy _ om) (rs_of rfl) rfl rfl rfl (rdk_one 8 kr (rdo_new rfl trivial (e_lit ttOk rfl rfl rfl) (rdk_one 9 kr (rdo_brk rfl rfl trivial (e_app ttOk rfl rfl rfl rfl rfl rfl rfl (by simp; omega) rfl rfl) (rdb_q 10 rfl kr trivial (q_fieldAddr ttOk rfl) rfl (rdb_eff 11 rfl kr trivial (e_store ttOk rfl) (rdb_endq kr (eb (et (rg (xm rfl rfl (xa rfl rfl rfl om rfl (xs rfl rfl (nl (eve_round (k + 1) [(101, 23)] ?hp ⟨trf, trf, ⟨⟨_, rfl, by exact map_next om⟩, ⟨_, rfl, by rfl⟩, trivial⟩, tre, rfl⟩))))))))))))))))))))))))
  case hp => exact ⟨by omega, by omega⟩
 ·have d1 := of_decide_eq_false h1
  refine ev_exit (evx_then (evx_then (evx_hit (et (sq (sq (rg (xs rfl rfl (nl (et (ev_blk (ev_loop (fun j : Nat => (⟨[(5, iV j), (1, pbV 1 0), (3, pbV 3 0), (2, pbV 2 0)], [(3, 44, [.rt 101, .rt 102]), (2, 44, [.c .nil, .c .nil]), (1, 44, [.c (rows d.kept), .c (writes d.wait)])], [(101, 74, 1, (d.kept.map fun r => [ints r])), (102, 212, 2, ((d.wait.take j).map fun x => [iC x.1, ints x.2]))], []⟩ : St)) (fun j => j ≤ d.wait.length) (fun j => d.wait.length - j) 0 [] (by simp) ⟨trf, trf, ⟨⟨_, rfl, by rw [take_end om]⟩, ⟨_, rfl, by rfl⟩, trivial⟩, tre, rfl⟩ ?_))))))))))))
  intro j hp
  have q0 := hp
  show Ev _ _ _ _ (⟨[(5, iV j), (1, pbV 1 0), (3, pbV 3 0), (2, pbV 2 0)], [(3, 44, [.rt 101, .rt 102]), (2, 44, [.c .nil, .c .nil]), (1, 44, [.c (rows d.kept), .c (writes d.wait)])], [(101, 74, 1, (d.kept.map fun r => [ints r])), (102, 212, 2, ((d.wait.take j).map fun x => [iC x.1, ints x.2]))], []⟩ : St)
  refine sq (sq (rg (xm rfl rfl (xf ttOk rfl rfl (xl ttOk rfl rfl (xo (q_len_map ttOk rfl rfl) rfl (xb ttOk rfl rfl (nl (et (ev_cond rfl (fun h2 => ?_) (fun h2 => ?_)))))))))))
  ·have d2 := of_decide_eq_true h2
   refine ev_skip (et (sq (ev_blk ?_)))
   have hl := wait_len h (k := j) om
   refine ev_drawq [17, 19] mo (rk0 0 rfl (q_fieldAddr ttOk rfl) rfl (rk0 1 rfl (q_load ttOk rfl) rfl (rk0 2 rfl (q_fieldAddr ttOk rfl) rfl (rk0 3 rfl (q_load ttOk rfl) rfl (rk0 4 rfl (q_move rfl) rfl (rk0 5 rfl (q_ix_map ttOk rfl rfl rfl rfl om) rfl (rk0 6 rfl (q_fieldAddr ttOk rfl) rfl (rk0 7 rfl (q_load ttOk rfl) rfl (rk0 8 rfl (q_fieldAddr ttOk rfl) rfl (rk0 9 rfl (q_load ttOk rfl) rfl (rk0 10 rfl (q_move rfl) rfl (rk0 11 rfl (q_ix_map ttOk rfl rfl rfl rfl om) rfl (rk0 12 rfl (q_fieldAddr ttOk rfl) rfl (rk0 13 rfl (q_load ttOk rfl) rfl (rdk_one 14 kr (rdo_call (nm := 46) rfl trivial (cf rfl) (c_l1Copy _ om) (rs_of rfl) rfl rfl rfl (rk0 15 rfl (q_build ttOk rfl) rfl (rdk_one 16 kr (rdo_new rfl trivial (e_lit ttOk rfl rfl rfl) (rdk_one 17 kr (rdo_brk rfl rfl trivial (e_app ttOk rfl rfl rfl rfl rfl rfl rfl (by simp; omega) rfl rfl) (rdb_q 18 rfl kr trivial (q_fieldAddr ttOk rfl) rfl (rdb_eff 19 rfl kr trivial (e_store ttOk rfl) (rdb_endq kr (eb (et (rg (xm rfl rfl (xa rfl rfl rfl om rfl (xs rfl rfl (nl (eve_round (j + 1) [(102, 49)] ?hp ⟨trf, trf, ⟨⟨_, rfl, by rfl⟩, ⟨_, rfl, by exact map_next om⟩, trivial⟩, tre, rfl⟩))))))))))))))))))))))))))))))))
   case hp => exact ⟨by omega, by omega⟩
  ·have d2 := of_decide_eq_false h2
   refine ev_exit (evx_then (evx_then (evx_hit (et (sq (rg (xl ttOk rfl rfl (xst ttOk rfl rfl (nl (et (ev_ret (ret_pure' ttOk rfl rfl ?_))))))))))))
   rw [take_end (l := d.wait) om]
theorem c_copyRows (l : List (List Int)) (h : l.length ≤ 40) (h2 : ∀ r ∈ l, rowOk r = true) : Pure Tryz.prog 242 [one (rows l)] [one' (rowsR l)] := by
 refine pure_intro (N := 22) Tryz.func242 rfl rfl rfl rfl (fun H w => ?_)
 refine sq (rg (xs rfl rfl (nl (et (sq (rg (xm rfl rfl (xo (q_len_map ttOk rfl rfl) rfl (evl_e (e_make0 ttOk rfl rfl rfl rfl rfl rfl rfl om rfl rfl) (xs rfl rfl (nl (et (sq (sq (rg (xm rfl rfl (xo (q_len_map ttOk rfl rfl) rfl (xm rfl rfl (nl (et (ev_blk (ev_loop (fun k : Nat => (⟨[(11, iV k), (9, cV (rows l)), (10, iV l.length), (3, .p false [.rt 101])], [], [(101, 74, 1, ((l.take k).map fun r => [ints r]))], []⟩ : St)) (fun k => k ≤ l.length) (fun k => l.length - k) 0 [(101, 8)] (by simp) ⟨trf, trf, ⟨⟨_, rfl, by rfl⟩, trivial⟩, tre, rfl⟩ ?_))))))))))))))))))))))
 intro k hp
 have p0 := hp
 show Ev _ _ _ _ (⟨[(11, iV k), (9, cV (rows l)), (10, iV l.length), (3, .p false [.rt 101])], [], [(101, 74, 1, ((l.take k).map fun r => [ints r]))], []⟩ : St)
 refine sq (rg (xb ttOk rfl rfl (nl (et (sq (ev_cond rfl (fun h1 => ?_) (fun h1 => ?_)))))))
 ·have d1 := of_decide_eq_true h1
  refine ev_skip (et (sq (ev_blk (sq ?_))))
  have hl := (rowOk_nums (h2 _ (List.getElem_mem (show k < l.length by omega)))).1
  refine rg (xo (q_ix_map ttOk rfl rfl rfl rfl om) rfl (xl ttOk rfl rfl (xs rfl rfl (nl (et (rg (xm rfl rfl (xm rfl rfl (evl_call (nm := 17) (cf rfl) (c_copyRow _ om) (rs_of rfl) rfl rfl rfl (evl_e (e_lit ttOk rfl rfl rfl) (evl_e (e_app ttOk rfl rfl rfl rfl rfl rfl rfl (by simp; omega) rfl rfl) (xs rfl rfl (nl (eb (et (rg (xa rfl rfl rfl om rfl (xm rfl rfl (nl (eve_round (k + 1) [(101, 19)] ?hp ⟨trf, trf, ⟨⟨_, rfl, by exact map_next om⟩, trivial⟩, tre, rfl⟩))))))))))))))))))))
  case hp => exact ⟨by omega, by omega⟩
 ·have d1 := of_decide_eq_false h1
  refine ev_exit (evx_then (evx_then (evx_hit (et (sq (rg (xm rfl rfl (xs rfl rfl (nl (et (ev_ret (ret_pure' ttOk rfl rfl ?_))))))))))))
  rw [take_end (l := l) om]
theorem c_copyDisk (d : Disk) (h : diskOk d = true) : Pure Tryz.prog 206 [many (diskC d)] [many' (diskR d)] := by
 refine pure_intro (N := 30) Tryz.func206 rfl rfl rfl rfl (fun H w => ?_)
 have hs := diskOk_sizes h
 have hr := hs.2.2.2.1
 refine sq (rg (evl_e (e_box rfl rfl rfl rfl) (evl_e (e_alloc ttOk rfl rfl rfl rfl) (nl (et (sq (rg (xf ttOk rfl rfl (xl ttOk rfl rfl (evl_call (nm := 8) (cf rfl) (c_copyRows _ om ‹_›) (rs_of rfl) rfl rfl rfl (xo (q_build ttOk rfl) rfl (evl_e (e_alloc ttOk rfl rfl rfl rfl) (xst ttOk rfl rfl (nl (et (sq (sq (ev_adopt (b := 3) 1 102 212 2 rfl rfl rfl rfl rfl (rg (xf ttOk rfl rfl (xl ttOk rfl rfl (xo (q_len_map ttOk rfl rfl) rfl (xm rfl rfl (nl (et (ev_blk (ev_loop (fun j : Nat => (⟨[(13, iV j), (11, cV (writes d.wait)), (12, iV d.wait.length), (1, pbV 1 0), (3, pbV 3 0), (2, pbV 2 0)], [(3, 44, [.rt 101, .rt 102]), (2, 44, [.c .nil, .c .nil]), (1, 44, [.c (rows d.kept), .c (writes d.wait)])], [(101, 74, 1, (d.kept.map fun r => [ints r])), (102, 212, 2, ((d.wait.take j).map fun x => [iC x.1, ints x.2]))], []⟩ : St)) (fun j => j ≤ d.wait.length) (fun j => d.wait.length - j) 0 [(101, 8)] (by simp) ⟨trf, trf, ⟨⟨_, rfl, by rfl⟩, ⟨_, rfl, by rfl⟩, trivial⟩, tre, rfl⟩ ?_)))))))))))))))))))))))))))
 intro j hp
 have q0 := hp
 show Ev _ _ _ _ (⟨[(13, iV j), (11, cV (writes d.wait)), (12, iV d.wait.length), (1, pbV 1 0), (3, pbV 3 0), (2, pbV 2 0)], [(3, 44, [.rt 101, .rt 102]), (2, 44, [.c .nil, .c .nil]), (1, 44, [.c (rows d.kept), .c (writes d.wait)])], [(101, 74, 1, (d.kept.map fun r => [ints r])), (102, 212, 2, ((d.wait.take j).map fun x => [iC x.1, ints x.2]))], []⟩ : St)
 refine sq (rg (xb ttOk rfl rfl (nl (et (sq (ev_cond rfl (fun h1 => ?_) (fun h1 => ?_)))))))
 ·have d1 := of_decide_eq_true h1
  refine ev_skip (et (sq (ev_blk (sq ?_))))
  have hl := wait_len h (k := j) om
  refine rg (xo (q_ix_map ttOk rfl rfl rfl rfl om) rfl (xl ttOk rfl rfl (evl_e (e_alloc ttOk rfl rfl rfl rfl) (xst ttOk rfl rfl (nl (et (ev_drawq [9, 11] mo (rk0 0 rfl (q_fieldAddr ttOk rfl) rfl (rk0 1 rfl (q_load ttOk rfl) rfl (rk0 2 rfl (q_fieldAddr ttOk rfl) rfl (rk0 3 rfl (q_load ttOk rfl) rfl (rk0 4 rfl (q_fieldAddr ttOk rfl) rfl (rk0 5 rfl (q_load ttOk rfl) rfl (rdk_one 6 kr (rdo_call (nm := 23) rfl trivial (cf rfl) (c_copyRow _ om) (rs_of rfl) rfl rfl rfl (rk0 7 rfl (q_build ttOk rfl) rfl (rdk_one 8 kr (rdo_new rfl trivial (e_lit ttOk rfl rfl rfl) (rdk_one 9 kr (rdo_brk rfl rfl trivial (e_app ttOk rfl rfl rfl rfl rfl rfl rfl (by simp; omega) rfl rfl) (rdb_q 10 rfl kr trivial (q_fieldAddr ttOk rfl) rfl (rdb_eff 11 rfl kr trivial (e_store ttOk rfl) (rdb_endq kr (eb (et (rg (xa rfl rfl rfl om rfl (xm rfl rfl (nl (eve_round (j + 1) [(102, 26)] ?hp ⟨trf, trf, ⟨⟨_, rfl, by rfl⟩, ⟨_, rfl, by exact map_next om⟩, trivial⟩, tre, rfl⟩))))))))))))))))))))))))))))))
  case hp => exact ⟨by omega, by omega⟩
 ·have d1 := of_decide_eq_false h1
  refine ev_exit (evx_then (evx_then (evx_hit (et (sq (rg (xl ttOk rfl rfl (xst ttOk rfl rfl (nl (et (ev_ret (ret_pure' ttOk rfl rfl ?_))))))))))))
  rw [take_end (l := d.wait) om]
theorem c_l4Copy (t : Two) (h : twoOk t = true) : Pure Tryz.prog 124 [many (twoC t)] [many' (twoR t)] := by
 refine pure_intro (N := 10) Tryz.func124 rfl rfl rfl rfl (fun H w => ?_)
 obtain ⟨ha, hb⟩ := twoOk_both h
 refine sq (rg (evl_e (e_box rfl rfl rfl rfl) (evl_e (e_alloc ttOk rfl rfl rfl rfl) (nl (et (sq (ev_drawq [7] mo (rk0 0 rfl (q_fieldAddr ttOk rfl) rfl (rk0 1 rfl (q_load ttOk rfl) rfl (rk0 3 rfl (q_fieldAddr ttOk rfl) rfl (rk0 4 rfl (q_load ttOk rfl) rfl (rdk_one 2 kr ?_))))))))))))
 first | refine rdo_call (nm := 5) rfl trivial (cf rfl) (c_l3Copy t.a ha) (rs_of rfl) rfl rfl rfl ?_ | refine rdo_call (nm := 5) rfl trivial (cf rfl) (c_l3Copy t.b hb) (rs_of rfl) rfl rfl rfl ?_
 refine rdk_one 5 kr ?_
 first | refine rdo_call (nm := 8) rfl trivial (cf rfl) (c_l3Copy t.a ha) (rs_of rfl) rfl rfl rfl ?_ | refine rdo_call (nm := 8) rfl trivial (cf rfl) (c_l3Copy t.b hb) (rs_of rfl) rfl rfl rfl ?_
 refine rk0 6 rfl (q_build ttOk rfl) rfl (rdk_one 7 kr (rdo_brk rfl rfl trivial (e_store ttOk rfl) (rdb_endq kr (et (ev_ret (ret_pure' ttOk rfl rfl ?_))))))
 rfl
theorem c_copyTwo (t : Two) (h : twoOk t = true) : Pure Tryz.prog 139 [many (twoC t)] [many' (twoR t)] := by
 refine pure_intro (N := 10) Tryz.func139 rfl rfl rfl rfl (fun H w => ?_)
 obtain ⟨ha, hb⟩ := twoOk_both h
 refine sq (rg (evl_e (e_box rfl rfl rfl rfl) (evl_e (e_alloc ttOk rfl rfl rfl rfl) (nl (et (sq (ev_drawq [7] mo (rk0 0 rfl (q_fieldAddr ttOk rfl) rfl (rk0 1 rfl (q_load ttOk rfl) rfl (rk0 3 rfl (q_fieldAddr ttOk rfl) rfl (rk0 4 rfl (q_load ttOk rfl) rfl (rdk_one 2 kr ?_))))))))))))
 first | refine rdo_call (nm := 5) rfl trivial (cf rfl) (c_copyDisk t.a ha) (rs_of rfl) rfl rfl rfl ?_ | refine rdo_call (nm := 5) rfl trivial (cf rfl) (c_copyDisk t.b hb) (rs_of rfl) rfl rfl rfl ?_
 refine rdk_one 5 kr ?_
 first | refine rdo_call (nm := 8) rfl trivial (cf rfl) (c_copyDisk t.a ha) (rs_of rfl) rfl rfl rfl ?_ | refine rdo_call (nm := 8) rfl trivial (cf rfl) (c_copyDisk t.b hb) (rs_of rfl) rfl rfl rfl ?_
 refine rk0 6 rfl (q_build ttOk rfl) rfl (rdk_one 7 kr (rdo_brk rfl rfl trivial (e_store ttOk rfl) (rdb_endq kr (et (ev_ret (ret_pure' ttOk rfl rfl ?_))))))
 rfl
theorem c_disks (x1 x2 x3 x4 : Value) : Pure Tryz.prog 168 [many [.v x1, .v x2, .v x3, .v x4]] [many' [.v x1, .v x2, .v x3, .v x4]] := by
 refine pure_intro (N := 8) Tryz.func168 rfl rfl rfl rfl (fun H w => ?_)
 refine sq ?_
 refine rg ?_
 refine evl_e (e_box rfl rfl rfl rfl) ?_
 refine evl_e (e_alloc ttOk rfl rfl rfl rfl) ?_
 refine nl ?_
 refine et ?_
 refine sq ?_
 refine rg ?_
 refine xf ttOk rfl rfl ?_
 refine xl ttOk rfl rfl ?_
 refine xf ttOk rfl rfl ?_
 refine xl ttOk rfl rfl ?_
 refine xo (q_build ttOk rfl) rfl ?_
 refine xst ttOk rfl rfl ?_
 refine nl ?_
 refine et ?_
 refine ev_ret ?_
 refine ret_pure' ttOk rfl rfl ?_
 rfl
theorem c_twoOf (x1 x2 x3 x4 : Value) : Pure Tryz.prog 170 [many [.v x1, .v x2, .v x3, .v x4]] [many' [.v x1, .v x2, .v x3, .v x4]] := by
 refine pure_intro (N := 8) Tryz.func170 rfl rfl rfl rfl (fun H w => ?_)
 refine sq ?_
 refine rg ?_
 refine evl_e (e_box rfl rfl rfl rfl) ?_
 refine evl_e (e_alloc ttOk rfl rfl rfl rfl) ?_
 refine nl ?_
 refine et ?_
 refine sq ?_
 refine rg ?_
 refine xo (q_ix_arr 0 ttOk rfl rfl rfl) rfl ?_
 refine xl ttOk rfl rfl ?_
 refine xo (q_ix_arr 1 ttOk rfl rfl rfl) rfl ?_
 refine xl ttOk rfl rfl ?_
 refine xo (q_build ttOk rfl) rfl ?_
 refine xst ttOk rfl rfl ?_
 refine nl ?_
 refine et ?_
 refine ev_ret ?_
 refine ret_pure' ttOk rfl rfl ?_
 rfl
theorem hands_disks : Hands Tryz.prog 168 4 [0, 1, 2, 3] := fun us h => by
 match us, h with
 | [x1, x2, x3, x4], _ => exact c_disks x1 x2 x3 x4
theorem hands_twoOf : Hands Tryz.prog 170 4 [0, 1, 2, 3] := fun us h => by
 match us, h with
 | [x1, x2, x3, x4], _ => exact c_twoOf x1 x2 x3 x4
end Go.Proofs.YtinmcdcmidlgpaaGreatDoor
