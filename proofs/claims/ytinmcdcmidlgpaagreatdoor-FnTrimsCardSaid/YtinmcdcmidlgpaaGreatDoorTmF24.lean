/- Walks of functions of the program, printed by a program of the prover. -/
import Derived.Test.YtinmcdcmidlgpaaGreatDoorTmF19
import Derived.Test.YtinmcdcmidlgpaaGreatDoorTmVN
import Derived.Test.YtinmcdcmidlgpaaGreatDoorTmVR
namespace Go.Proofs.YtinmcdcmidlgpaaGreatDoor
open Go.ChangeShapes Go.WideShapes Go.ChangeAt Go.RowKit
set_option linter.unusedVariables false
set_option linter.unusedSimpArgs false
set_option maxHeartbeats 1000000
set_option maxRecDepth 100000
attribute [local irreducible] EvL Ev EvE Quiet Eff Pure RDk RDb RDo
def eqX {α : Type} [DecidableEq α] (l m : List α) : Bool := decide (l = m)
theorem eqX_len {α : Type} [DecidableEq α] {l m : List α} (h : (l.length : Int) ≠ m.length) : eqX l m = false := decide_eq_false fun e => h (by rw [e])
theorem eqX_at {α : Type} [DecidableEq α] {l m : List α} {k : Nat} (h1 : k < l.length) (h2 : k < m.length) (h : l[k] ≠ m[k]) : eqX l m = false := decide_eq_false fun e => h (by subst e; rfl)
theorem eqX_all {α : Type} [DecidableEq α] {l m : List α} {k : Nat} (h1 : ¬ k < l.length) (h2 : l.length = m.length) (hp : l.take k = m.take k) : eqX l m = true := decide_eq_true (take_all h1 h2 hp)
def eqD (d e : Disk) : Bool := eqX d.kept e.kept && eqX d.wait e.wait
def eqHd (a b : Head) : Bool := decide (a.num = b.num) && (decide (a.base = b.base) && (decide (a.time = b.time) && eqN Mark.nums a.seen b.seen))
def eqBk (a b : Book) : Bool := decide (a.base = b.base) && (decide (a.time = b.time) && eqN Entry.nums a.entries b.entries)
def wEq (x y : Int × List Int) : Bool := decide (x.1 = y.1) && eqL x.2 y.2
theorem wEq_no {x y : Int × List Int} (h : wEq x y = false) : x ≠ y := fun e => by subst e; simp [wEq, eqL] at h
theorem wEq_yes {x y : Int × List Int} (h : wEq x y = true) : x = y := by
 simp only [wEq, eqL, Bool.and_eq_true, decide_eq_true_eq] at h
 exact Prod.ext h.1 h.2
theorem eqL_no {x y : List Int} (h : eqL x y = false) : x ≠ y := of_decide_eq_false h
theorem eqL_yes {x y : List Int} (h : eqL x y = true) : x = y := of_decide_eq_true h
def sameL (a b : LogN) : Bool := eqD a.two.a b.two.a && (eqD a.two.b b.two.b && (eqHd a.head b.head && (eqHd a.next b.next && ((a.more == b.more) && (eqBk a.book b.book && (eqN Mark.nums a.seen b.seen && (decide (a.durable = b.durable) && eqN Ack.nums a.owe b.owe)))))))
theorem c_eqEntries (l m : List Entry) : Pure Tryz.prog 175 [one (entries l), one (entries m)] (bR (eqN Entry.nums l m)) := by
 refine pure_intro (N := 26) Tryz.func175 rfl rfl rfl rfl (fun H w => ?_)
 refine ev_lenm (t := 0) rfl (fun hL => ?_)
 refine ev_lenm (t := 1) rfl (fun hM => ?_)
 refine sq (rg (xs rfl rfl (nl (et (sq (sq (rg (xm rfl rfl (xo (q_len_map ttOk rfl rfl) rfl (xm rfl rfl (xo (q_len_map ttOk rfl rfl) rfl (xb ttOk rfl rfl (nl (et (ev_cond rfl (fun h1 => ?_) (fun h1 => ?_))))))))))))))))
 ·have d1 := of_decide_eq_true h1
  refine sq (rg (xs rfl rfl (nl (et (ev_ret (evr_then (ret_pure' ttOk rfl rfl (congrArg bR (?_ : _ = _)))))))))
  rw [eqN_len d1]
 ·have d1 := of_decide_eq_false h1
  have hlen : l.length = m.length := by omega
  refine ev_skip (et (sq (sq (rg (xm rfl rfl (xo (q_len_map ttOk rfl rfl) rfl (xm rfl rfl (nl (et (ev_blk (ev_loop (fun k : Nat => (⟨[(13, iV k), (12, iV l.length), (0, cV (entries l)), (1, cV (entries m))], [], [], []⟩ : St)) (fun k => k ≤ l.length ∧ (l.take k).map Entry.nums = (m.take k).map Entry.nums) (fun k => l.length - k) 0 [] (⟨by simp, by simp⟩) lei ?_)))))))))))
  intro k hp
  obtain ⟨p0, p1⟩ := hp
  show Ev _ _ _ _ (⟨[(13, iV k), (12, iV l.length), (0, cV (entries l)), (1, cV (entries m))], [], [], []⟩ : St)
  refine sq (rg (xb ttOk rfl rfl (nl (et (sq (ev_cond rfl (fun h2 => ?_) (fun h2 => ?_)))))))
  ·have d2 := of_decide_eq_true h2
   refine ev_skip (et (sq (ev_blk (sq (rg (xm rfl rfl (xs rfl rfl (nl (et (sq (ev_drawq [] mo (rk0 0 rfl (q_move rfl) rfl (rk0 1 rfl (q_move rfl) rfl (rk0 2 rfl (q_ix_map ttOk rfl rfl rfl rfl om) rfl (rk0 3 rfl (q_load ttOk rfl) rfl (rk0 4 rfl (q_move rfl) rfl (rk0 5 rfl (q_move rfl) rfl (rk0 6 rfl (q_ix_map ttOk rfl rfl rfl rfl om) rfl (rk0 7 rfl (q_load ttOk rfl) rfl ?_)))))))))))))))))))
   first | refine rk0 8 rfl (q_eqT (n := 9) kr rfl rfl rfl rfl rfl rfl rfl) rfl ?_ | refine rk0 8 rfl (q_bin ttOk rfl) rfl ?_
   refine rdk_endq kr (et (ev_cond rfl (fun h3 => ?_) (fun h3 => ?_)))
   ·have d3 := of_decide_eq_true h3
    refine sq (rg (xs rfl rfl (nl (et (ev_ret (evr_blk (evr_then (evr_then (evr_blk (evr_then (ret_pure' ttOk rfl rfl (congrArg bR (?_ : _ = _)))))))))))))
    rw [eqN_at (k := k) om om d3]
   ·have d3 := of_decide_eq_false h3
    refine ev_skip (eb (et (rg (xa rfl rfl rfl om rfl (xm rfl rfl (nl (eve_round (k + 1) [] ?hp lei)))))))
    case hp => exact ⟨⟨by omega, takeN om om p1 (Decidable.not_not.1 d3)⟩, by omega⟩
  ·have d2 := of_decide_eq_false h2
   refine ev_exit (evx_then (evx_then (evx_hit (et (sq (rg (xs rfl rfl (nl (et (ev_ret (ret_pure' ttOk rfl rfl (congrArg bR (?_ : _ = _)))))))))))))
   exact (takeN_all om hlen p1).symm
theorem c_SameBook' (x y : Book) : Pure Tryz.prog 89 [many (bookC x), many (bookC y)] (bR (eqBk x y)) := by
 refine pure_intro (N := 24) Tryz.func89 rfl rfl rfl rfl (fun H w => ?_)
 refine sq (rg (evl_e (e_box rfl rfl rfl rfl) (evl_e (e_box rfl rfl rfl rfl) (xs rfl rfl (nl (et (sq (rg (xf ttOk rfl rfl (xl ttOk rfl rfl (xf ttOk rfl rfl (xl ttOk rfl rfl (xb ttOk rfl rfl (xm rfl rfl (evl_part rfl rfl (fun h1 => ?_) (fun h1 => ?_))))))))))))))))
 ·refine go h1 rfl rfl (q_fieldAddr ttOk rfl) rfl (go h1 rfl rfl (q_load ttOk rfl) rfl (go h1 rfl rfl (q_fieldAddr ttOk rfl) rfl (go h1 rfl rfl (q_load ttOk rfl) rfl (go h1 rfl rfl (q_bin ttOk rfl) rfl (xo (q_pick_t rfl h1 rfl) rfl (xm rfl rfl (evl_part rfl rfl (fun h2 => ?_) (fun h2 => ?_))))))))
  ·refine go h2 rfl rfl (q_fieldAddr ttOk rfl) rfl (go h2 rfl rfl (q_load ttOk rfl) rfl (go h2 rfl rfl (q_fieldAddr ttOk rfl) rfl (go h2 rfl rfl (q_load ttOk rfl) rfl (evl_callg rfl rfl h2 (nm := 22) (cf rfl) (c_eqEntries _ _) (rs_of rfl) rfl rfl rfl (xo (q_pick_t rfl h2 rfl) rfl (xs rfl rfl (nl (et (ev_ret (ret_pure' ttOk rfl rfl (congrArg bR (?_ : _ = _))))))))))))
   simp_all [eqBk]
  ·refine gn h2 rfl rfl rfl (gn h2 rfl rfl rfl (gn h2 rfl rfl rfl (gn h2 rfl rfl rfl (gn h2 rfl rfl rfl (xo (q_pick_f rfl h2 rfl) rfl (xs rfl rfl (nl (et (ev_ret (ret_pure' ttOk rfl rfl (congrArg bR (?_ : _ = _))))))))))))
   simp_all [eqBk]
 ·refine gn h1 rfl rfl rfl (gn h1 rfl rfl rfl (gn h1 rfl rfl rfl (gn h1 rfl rfl rfl (gn h1 rfl rfl rfl (xo (q_pick_f rfl h1 rfl) rfl (xm rfl rfl (gn rfl rfl rfl rfl (gn rfl rfl rfl rfl (gn rfl rfl rfl rfl (gn rfl rfl rfl rfl (gn rfl rfl rfl rfl (xo (q_pick_f rfl rfl rfl) rfl (xs rfl rfl (nl (et (ev_ret (ret_pure' ttOk rfl rfl (congrArg bR (?_ : _ = _)))))))))))))))))))
  simp_all [eqBk]
theorem c_sameHead (x y : Head) : Pure Tryz.prog 88 [many (headC x), many (headC y)] (bR (eqHd x y)) := by
 refine pure_intro (N := 31) Tryz.func88 rfl rfl rfl rfl (fun H w => ?_)
 refine sq (rg (evl_e (e_box rfl rfl rfl rfl) (evl_e (e_box rfl rfl rfl rfl) (xs rfl rfl (nl (et (sq (rg (xf ttOk rfl rfl (xl ttOk rfl rfl (xf ttOk rfl rfl (xl ttOk rfl rfl (xb ttOk rfl rfl (xm rfl rfl (evl_part rfl rfl (fun h1 => ?_) (fun h1 => ?_))))))))))))))))
 ·refine go h1 rfl rfl (q_fieldAddr ttOk rfl) rfl (go h1 rfl rfl (q_load ttOk rfl) rfl (go h1 rfl rfl (q_fieldAddr ttOk rfl) rfl (go h1 rfl rfl (q_load ttOk rfl) rfl (go h1 rfl rfl (q_bin ttOk rfl) rfl (xo (q_pick_t rfl h1 rfl) rfl (xm rfl rfl (evl_part rfl rfl (fun h2 => ?_) (fun h2 => ?_))))))))
  ·refine go h2 rfl rfl (q_fieldAddr ttOk rfl) rfl (go h2 rfl rfl (q_load ttOk rfl) rfl (go h2 rfl rfl (q_fieldAddr ttOk rfl) rfl (go h2 rfl rfl (q_load ttOk rfl) rfl (go h2 rfl rfl (q_bin ttOk rfl) rfl (xo (q_pick_t rfl h2 rfl) rfl (xm rfl rfl (evl_part rfl rfl (fun h3 => ?_) (fun h3 => ?_))))))))
   ·refine go h3 rfl rfl (q_fieldAddr ttOk rfl) rfl (go h3 rfl rfl (q_load ttOk rfl) rfl (go h3 rfl rfl (q_fieldAddr ttOk rfl) rfl (go h3 rfl rfl (q_load ttOk rfl) rfl (evl_callg rfl rfl h3 (nm := 29) (cf rfl) (c_SameSeen' _ _) (rs_of rfl) rfl rfl rfl (xo (q_pick_t rfl h3 rfl) rfl (xs rfl rfl (nl (et (ev_ret (ret_pure' ttOk rfl rfl (congrArg bR (?_ : _ = _))))))))))))
    simp_all [eqHd]
   ·refine gn h3 rfl rfl rfl (gn h3 rfl rfl rfl (gn h3 rfl rfl rfl (gn h3 rfl rfl rfl (gn h3 rfl rfl rfl (xo (q_pick_f rfl h3 rfl) rfl (xs rfl rfl (nl (et (ev_ret (ret_pure' ttOk rfl rfl (congrArg bR (?_ : _ = _))))))))))))
    simp_all [eqHd]
  ·refine gn h2 rfl rfl rfl (gn h2 rfl rfl rfl (gn h2 rfl rfl rfl (gn h2 rfl rfl rfl (gn h2 rfl rfl rfl (xo (q_pick_f rfl h2 rfl) rfl (xm rfl rfl (gn rfl rfl rfl rfl (gn rfl rfl rfl rfl (gn rfl rfl rfl rfl (gn rfl rfl rfl rfl (gn rfl rfl rfl rfl (xo (q_pick_f rfl rfl rfl) rfl (xs rfl rfl (nl (et (ev_ret (ret_pure' ttOk rfl rfl (congrArg bR (?_ : _ = _)))))))))))))))))))
   simp_all [eqHd]
 ·refine gn h1 rfl rfl rfl (gn h1 rfl rfl rfl (gn h1 rfl rfl rfl (gn h1 rfl rfl rfl (gn h1 rfl rfl rfl (xo (q_pick_f rfl h1 rfl) rfl (xm rfl rfl (gn rfl rfl rfl rfl (gn rfl rfl rfl rfl (gn rfl rfl rfl rfl (gn rfl rfl rfl rfl (gn rfl rfl rfl rfl (xo (q_pick_f rfl rfl rfl) rfl (xm rfl rfl (gn rfl rfl rfl rfl (gn rfl rfl rfl rfl (gn rfl rfl rfl rfl (gn rfl rfl rfl rfl (gn rfl rfl rfl rfl (xo (q_pick_f rfl rfl rfl) rfl (xs rfl rfl (nl (et (ev_ret (ret_pure' ttOk rfl rfl (congrArg bR (?_ : _ = _))))))))))))))))))))))))))
  simp_all [eqHd]
theorem c_sameWrite (x y : Int × List Int) : Pure Tryz.prog 174 [many [iC x.1, ints x.2], many [iC y.1, ints y.2]] (bR (wEq x y)) := by
 refine pure_intro (N := 17) Tryz.func174 rfl rfl rfl rfl (fun H w => ?_)
 refine sq (rg (evl_e (e_box rfl rfl rfl rfl) (evl_e (e_box rfl rfl rfl rfl) (xs rfl rfl (nl (et (sq (rg (xf ttOk rfl rfl (xl ttOk rfl rfl (xf ttOk rfl rfl (xl ttOk rfl rfl (xb ttOk rfl rfl (xm rfl rfl (evl_part rfl rfl (fun h1 => ?_) (fun h1 => ?_))))))))))))))))
 ·refine go h1 rfl rfl (q_fieldAddr ttOk rfl) rfl (go h1 rfl rfl (q_load ttOk rfl) rfl (go h1 rfl rfl (q_fieldAddr ttOk rfl) rfl (go h1 rfl rfl (q_load ttOk rfl) rfl (evl_callg rfl rfl h1 (nm := 15) (cf rfl) (c_SameRow' _ _) (rs_of rfl) rfl rfl rfl (xo (q_pick_t rfl h1 rfl) rfl (xs rfl rfl (nl (et (ev_ret (ret_pure' ttOk rfl rfl (congrArg bR (?_ : _ = _))))))))))))
  simp_all [wEq]
 ·refine gn h1 rfl rfl rfl (gn h1 rfl rfl rfl (gn h1 rfl rfl rfl (gn h1 rfl rfl rfl (gn h1 rfl rfl rfl (xo (q_pick_f rfl h1 rfl) rfl (xs rfl rfl (nl (et (ev_ret (ret_pure' ttOk rfl rfl (congrArg bR (?_ : _ = _))))))))))))
  simp_all [wEq]
theorem c_eqRowsF (l m : List (List Int)) : Pure Tryz.prog 171 [one (rows l), one (rows m), one (.v (.func (.func 172) #[] #[]))] (bR (eqX l m)) := by
 refine pure_intro (N := 32) Tryz.func171 rfl rfl rfl rfl (fun H w => ?_)
 refine ev_lenm (t := 0) rfl (fun hL => ?_)
 refine ev_lenm (t := 1) rfl (fun hM => ?_)
 refine sq (rg (xs rfl rfl (nl (et (sq (sq (rg (xm rfl rfl (xo (q_len_map ttOk rfl rfl) rfl (xm rfl rfl (xo (q_len_map ttOk rfl rfl) rfl (xb ttOk rfl rfl (nl (et (ev_cond rfl (fun h1 => ?_) (fun h1 => ?_))))))))))))))))
 ·have d1 := of_decide_eq_true h1
  refine sq (rg (xs rfl rfl (nl (et (ev_ret (evr_then (ret_pure' ttOk rfl rfl (congrArg bR (?_ : _ = _)))))))))
  rw [eqX_len d1]
 ·have d1 := of_decide_eq_false h1
  have hlen : l.length = m.length := by omega
  refine ev_skip (et (sq (sq (rg (xm rfl rfl (xo (q_len_map ttOk rfl rfl) rfl (xm rfl rfl (nl (et (ev_blk (ev_loop (fun k : Nat => (⟨[(17, iV k), (16, iV l.length), (15, cV (rows l)), (1, cV (rows m)), (2, cV (.v (.func (.func 172) #[] #[])))], [], [], []⟩ : St)) (fun k => k ≤ l.length ∧ l.take k = m.take k) (fun k => l.length - k) 0 [] (⟨by simp, by simp⟩) lei ?_)))))))))))
  intro k hp
  obtain ⟨p0, p1⟩ := hp
  show Ev _ _ _ _ (⟨[(17, iV k), (16, iV l.length), (15, cV (rows l)), (1, cV (rows m)), (2, cV (.v (.func (.func 172) #[] #[])))], [], [], []⟩ : St)
  refine sq (rg (xb ttOk rfl rfl (nl (et (sq (ev_cond rfl (fun h2 => ?_) (fun h2 => ?_)))))))
  ·have d2 := of_decide_eq_true h2
   refine ev_skip (et (sq (ev_blk (sq (rg (xm rfl rfl (xo (q_ix_map ttOk rfl rfl rfl rfl om) rfl (xl ttOk rfl rfl (xs rfl rfl (xs rfl rfl (nl (et (sq (rg (xm rfl rfl (xm rfl rfl (xo (q_ix_map ttOk rfl rfl rfl rfl om) rfl (xl ttOk rfl rfl (xs rfl rfl (nl (et (sq (rg (xm rfl rfl (xm rfl rfl (xm rfl rfl (evl_callt (nm := 29) rfl (cf rfl) (c_SameRow' _ _) (rs_of rfl) rfl rfl rfl (xo (q_not rfl) rfl (nl (et (ev_cond_n rfl (fun h3 => ?_) (fun h3 => ?_))))))))))))))))))))))))))))))))
   ·refine sq (rg (xs rfl rfl (nl (et (ev_ret (evr_blk (evr_then (evr_then (evr_blk (evr_then (ret_pure' ttOk rfl rfl (congrArg bR (?_ : _ = _)))))))))))))
    rw [eqX_at (k := k) om om (eqL_no h3)]
   ·refine ev_skip (eb (et (rg (xa rfl rfl rfl om rfl (xm rfl rfl (nl (eve_round (k + 1) [] ?hp lei)))))))
    case hp => exact ⟨⟨by omega, take_eq om om p1 (eqL_yes h3)⟩, by omega⟩
  ·have d2 := of_decide_eq_false h2
   refine ev_exit (evx_then (evx_then (evx_hit (et (sq (rg (xs rfl rfl (nl (et (ev_ret (ret_pure' ttOk rfl rfl (congrArg bR (?_ : _ = _)))))))))))))
   exact (eqX_all om hlen p1).symm
theorem c_eqWritesF (l m : List (Int × List Int)) : Pure Tryz.prog 173 [one (writes l), one (writes m), one (.v (.func (.func 174) #[] #[]))] (bR (eqX l m)) := by
 refine pure_intro (N := 32) Tryz.func173 rfl rfl rfl rfl (fun H w => ?_)
 refine ev_lenm (t := 0) rfl (fun hL => ?_)
 refine ev_lenm (t := 1) rfl (fun hM => ?_)
 refine sq (rg (xs rfl rfl (nl (et (sq (sq (rg (xm rfl rfl (xo (q_len_map ttOk rfl rfl) rfl (xm rfl rfl (xo (q_len_map ttOk rfl rfl) rfl (xb ttOk rfl rfl (nl (et (ev_cond rfl (fun h1 => ?_) (fun h1 => ?_))))))))))))))))
 ·have d1 := of_decide_eq_true h1
  refine sq (rg (xs rfl rfl (nl (et (ev_ret (evr_then (ret_pure' ttOk rfl rfl (congrArg bR (?_ : _ = _)))))))))
  rw [eqX_len d1]
 ·have d1 := of_decide_eq_false h1
  have hlen : l.length = m.length := by omega
  refine ev_skip (et (sq (sq (rg (xm rfl rfl (xo (q_len_map ttOk rfl rfl) rfl (xm rfl rfl (nl (et (ev_blk (ev_loop (fun k : Nat => (⟨[(17, iV k), (16, iV l.length), (15, cV (writes l)), (1, cV (writes m)), (2, cV (.v (.func (.func 174) #[] #[])))], [], [], []⟩ : St)) (fun k => k ≤ l.length ∧ l.take k = m.take k) (fun k => l.length - k) 0 [] (⟨by simp, by simp⟩) lei ?_)))))))))))
  intro k hp
  obtain ⟨p0, p1⟩ := hp
  show Ev _ _ _ _ (⟨[(17, iV k), (16, iV l.length), (15, cV (writes l)), (1, cV (writes m)), (2, cV (.v (.func (.func 174) #[] #[])))], [], [], []⟩ : St)
  refine sq (rg (xb ttOk rfl rfl (nl (et (sq (ev_cond rfl (fun h2 => ?_) (fun h2 => ?_)))))))
  ·have d2 := of_decide_eq_true h2
   refine ev_skip (et (sq (ev_blk (sq (rg (xm rfl rfl (xo (q_ix_map ttOk rfl rfl rfl rfl om) rfl (xl ttOk rfl rfl (evl_e (e_alloc ttOk rfl rfl rfl rfl) (xs rfl rfl (xst ttOk rfl rfl (nl (et (sq (rg (xm rfl rfl (xm rfl rfl (xo (q_ix_map ttOk rfl rfl rfl rfl om) rfl (xl ttOk rfl rfl (evl_e (e_alloc ttOk rfl rfl rfl rfl) (xst ttOk rfl rfl (nl (et (sq (rg (xm rfl rfl (xl ttOk rfl rfl (xl ttOk rfl rfl (evl_callt (nm := 29) rfl (cf rfl) (c_sameWrite (l[k]'om) (m[k]'om)) (rs_of rfl) rfl rfl rfl (xo (q_not rfl) rfl (nl (et (ev_cond_n rfl (fun h3 => ?_) (fun h3 => ?_))))))))))))))))))))))))))))))))))
   ·refine sq (rg (xs rfl rfl (nl (et (ev_ret (evr_blk (evr_then (evr_then (evr_blk (evr_then (ret_pure' ttOk rfl rfl (congrArg bR (?_ : _ = _)))))))))))))
    rw [eqX_at (k := k) om om (wEq_no h3)]
   ·refine ev_skip (eb (et (rg (xa rfl rfl rfl om rfl (xm rfl rfl (nl (eve_round (k + 1) [] ?hp lei)))))))
    case hp => exact ⟨⟨by omega, take_eq om om p1 (wEq_yes h3)⟩, by omega⟩
  ·have d2 := of_decide_eq_false h2
   refine ev_exit (evx_then (evx_then (evx_hit (et (sq (rg (xs rfl rfl (nl (et (ev_ret (ret_pure' ttOk rfl rfl (congrArg bR (?_ : _ = _)))))))))))))
   exact (eqX_all om hlen p1).symm
theorem c_sameDisk (d e : Disk) : Pure Tryz.prog 87 [many (diskC d), many (diskC e)] (bR (eqD d e)) := by
 refine pure_intro (N := 17) Tryz.func87 rfl rfl rfl rfl (fun H w => ?_)
 refine sq (rg (evl_e (e_box rfl rfl rfl rfl) (evl_e (e_box rfl rfl rfl rfl) (xs rfl rfl (nl (et (sq (rg (xf ttOk rfl rfl (xl ttOk rfl rfl (xf ttOk rfl rfl (xl ttOk rfl rfl (evl_call (nm := 9) (cf rfl) (c_eqRowsF _ _) (rs_of rfl) rfl rfl rfl (xm rfl rfl (evl_part rfl rfl (fun h1 => ?_) (fun h1 => ?_))))))))))))))))
 ·refine go h1 rfl rfl (q_fieldAddr ttOk rfl) rfl (go h1 rfl rfl (q_load ttOk rfl) rfl (go h1 rfl rfl (q_fieldAddr ttOk rfl) rfl (go h1 rfl rfl (q_load ttOk rfl) rfl (evl_callg rfl rfl h1 (nm := 15) (cf rfl) (c_eqWritesF _ _) (rs_of rfl) rfl rfl rfl (xo (q_pick_t rfl h1 rfl) rfl (xs rfl rfl (nl (et (ev_ret (ret_pure' ttOk rfl rfl (congrArg bR (?_ : _ = _))))))))))))
  simp_all [eqD]
 ·refine gn h1 rfl rfl rfl (gn h1 rfl rfl rfl (gn h1 rfl rfl rfl (gn h1 rfl rfl rfl (gn h1 rfl rfl rfl (xo (q_pick_f rfl h1 rfl) rfl (xs rfl rfl (nl (et (ev_ret (ret_pure' ttOk rfl rfl (congrArg bR (?_ : _ = _))))))))))))
  simp_all [eqD]
theorem c_SameLog' (x y : LogN) : Pure Tryz.prog 30 [many (logC x), many (logC y)] (bR (sameL x y)) := by
 refine pure_intro (N := 70) Tryz.func30 rfl rfl rfl rfl (fun H w => ?_)
 refine sq (rg (evl_e (e_box rfl rfl rfl rfl) (evl_e (e_box rfl rfl rfl rfl) (xs rfl rfl (nl (et (sq (rg (xf ttOk rfl rfl (xf ttOk rfl rfl (xl ttOk rfl rfl (xf ttOk rfl rfl (xf ttOk rfl rfl (xl ttOk rfl rfl ?_))))))))))))))
 first | refine evl_call (nm := 11) (cf rfl) (c_sameDisk x.two.a y.two.a) (rs_of rfl) rfl rfl rfl ?_ | refine evl_call (nm := 11) (cf rfl) (c_sameDisk x.two.b y.two.b) (rs_of rfl) rfl rfl rfl ?_
 refine xm rfl rfl (evl_part rfl rfl (fun h1 => ?_) (fun h1 => ?_))
 ·refine go h1 rfl rfl (q_fieldAddr ttOk rfl) rfl (go h1 rfl rfl (q_fieldAddr ttOk rfl) rfl (go h1 rfl rfl (q_load ttOk rfl) rfl (go h1 rfl rfl (q_fieldAddr ttOk rfl) rfl (go h1 rfl rfl (q_fieldAddr ttOk rfl) rfl (go h1 rfl rfl (q_load ttOk rfl) rfl ?_)))))
  first | refine evl_callg rfl rfl h1 (nm := 19) (cf rfl) (c_sameDisk x.two.a y.two.a) (rs_of rfl) rfl rfl rfl ?_ | refine evl_callg rfl rfl h1 (nm := 19) (cf rfl) (c_sameDisk x.two.b y.two.b) (rs_of rfl) rfl rfl rfl ?_
  refine xo (q_pick_t rfl h1 rfl) rfl (xm rfl rfl (evl_part rfl rfl (fun h2 => ?_) (fun h2 => ?_)))
  ·refine go h2 rfl rfl (q_fieldAddr ttOk rfl) rfl (go h2 rfl rfl (q_load ttOk rfl) rfl (go h2 rfl rfl (q_fieldAddr ttOk rfl) rfl (go h2 rfl rfl (q_load ttOk rfl) rfl (evl_callg rfl rfl h2 (nm := 26) (cf rfl) (c_sameHead ⟨_, _, _, _⟩ ⟨_, _, _, _⟩) (rs_of rfl) rfl rfl rfl (xo (q_pick_t rfl h2 rfl) rfl (xm rfl rfl (evl_part rfl rfl (fun h3 => ?_) (fun h3 => ?_))))))))
   ·refine go h3 rfl rfl (q_fieldAddr ttOk rfl) rfl (go h3 rfl rfl (q_load ttOk rfl) rfl (go h3 rfl rfl (q_fieldAddr ttOk rfl) rfl (go h3 rfl rfl (q_load ttOk rfl) rfl (evl_callg rfl rfl h3 (nm := 33) (cf rfl) (c_sameHead ⟨_, _, _, _⟩ ⟨_, _, _, _⟩) (rs_of rfl) rfl rfl rfl (xo (q_pick_t rfl h3 rfl) rfl (xm rfl rfl (evl_part rfl rfl (fun h4 => ?_) (fun h4 => ?_))))))))
    ·refine go h4 rfl rfl (q_fieldAddr ttOk rfl) rfl (go h4 rfl rfl (q_load ttOk rfl) rfl (go h4 rfl rfl (q_fieldAddr ttOk rfl) rfl (go h4 rfl rfl (q_load ttOk rfl) rfl (go h4 rfl rfl (q_bin ttOk rfl) rfl (xo (q_pick_t rfl h4 rfl) rfl (xm rfl rfl (evl_part rfl rfl (fun h5 => ?_) (fun h5 => ?_))))))))
     ·refine go h5 rfl rfl (q_fieldAddr ttOk rfl) rfl (go h5 rfl rfl (q_load ttOk rfl) rfl (go h5 rfl rfl (q_fieldAddr ttOk rfl) rfl (go h5 rfl rfl (q_load ttOk rfl) rfl (evl_callg rfl rfl h5 (nm := 47) (cf rfl) (c_SameBook' ⟨_, _, _⟩ ⟨_, _, _⟩) (rs_of rfl) rfl rfl rfl (xo (q_pick_t rfl h5 rfl) rfl (xm rfl rfl (evl_part rfl rfl (fun h6 => ?_) (fun h6 => ?_))))))))
      ·refine go h6 rfl rfl (q_fieldAddr ttOk rfl) rfl (go h6 rfl rfl (q_load ttOk rfl) rfl (go h6 rfl rfl (q_fieldAddr ttOk rfl) rfl (go h6 rfl rfl (q_load ttOk rfl) rfl (evl_callg rfl rfl h6 (nm := 54) (cf rfl) (c_SameSeen' _ _) (rs_of rfl) rfl rfl rfl (xo (q_pick_t rfl h6 rfl) rfl (xm rfl rfl (evl_part rfl rfl (fun h7 => ?_) (fun h7 => ?_))))))))
       ·refine go h7 rfl rfl (q_fieldAddr ttOk rfl) rfl (go h7 rfl rfl (q_load ttOk rfl) rfl (go h7 rfl rfl (q_fieldAddr ttOk rfl) rfl (go h7 rfl rfl (q_load ttOk rfl) rfl (go h7 rfl rfl (q_bin ttOk rfl) rfl (xo (q_pick_t rfl h7 rfl) rfl (xm rfl rfl (evl_part rfl rfl (fun h8 => ?_) (fun h8 => ?_))))))))
        ·refine go h8 rfl rfl (q_fieldAddr ttOk rfl) rfl (go h8 rfl rfl (q_load ttOk rfl) rfl (go h8 rfl rfl (q_fieldAddr ttOk rfl) rfl (go h8 rfl rfl (q_load ttOk rfl) rfl (evl_callg rfl rfl h8 (nm := 68) (cf rfl) (c_eqAcks _ _) (rs_of rfl) rfl rfl rfl (xo (q_pick_t rfl h8 rfl) rfl (xs rfl rfl (nl (et (ev_ret (ret_pure' ttOk rfl rfl (congrArg bR (?_ : _ = _))))))))))))
         simp_all [sameL]
        ·refine gn h8 rfl rfl rfl (gn h8 rfl rfl rfl (gn h8 rfl rfl rfl (gn h8 rfl rfl rfl (gn h8 rfl rfl rfl (xo (q_pick_f rfl h8 rfl) rfl (xs rfl rfl (nl (et (ev_ret (ret_pure' ttOk rfl rfl (congrArg bR (?_ : _ = _))))))))))))
         simp_all [sameL]
       ·refine gn h7 rfl rfl rfl (gn h7 rfl rfl rfl (gn h7 rfl rfl rfl (gn h7 rfl rfl rfl (gn h7 rfl rfl rfl (xo (q_pick_f rfl h7 rfl) rfl (xm rfl rfl (gn rfl rfl rfl rfl (gn rfl rfl rfl rfl (gn rfl rfl rfl rfl (gn rfl rfl rfl rfl (gn rfl rfl rfl rfl (xo (q_pick_f rfl rfl rfl) rfl (xs rfl rfl (nl (et (ev_ret (ret_pure' ttOk rfl rfl (congrArg bR (?_ : _ = _)))))))))))))))))))
        simp_all [sameL]
      ·refine gn h6 rfl rfl rfl (gn h6 rfl rfl rfl (gn h6 rfl rfl rfl (gn h6 rfl rfl rfl (gn h6 rfl rfl rfl (xo (q_pick_f rfl h6 rfl) rfl (xm rfl rfl (gn rfl rfl rfl rfl (gn rfl rfl rfl rfl (gn rfl rfl rfl rfl (gn rfl rfl rfl rfl (gn rfl rfl rfl rfl (xo (q_pick_f rfl rfl rfl) rfl (xm rfl rfl (gn rfl rfl rfl rfl (gn rfl rfl rfl rfl (gn rfl rfl rfl rfl (gn rfl rfl rfl rfl (gn rfl rfl rfl rfl (xo (q_pick_f rfl rfl rfl) rfl (xs rfl rfl (nl (et (ev_ret (ret_pure' ttOk rfl rfl (congrArg bR (?_ : _ = _))))))))))))))))))))))))))
       simp_all [sameL]
     ·refine gn h5 rfl rfl rfl (gn h5 rfl rfl rfl (gn h5 rfl rfl rfl (gn h5 rfl rfl rfl (gn h5 rfl rfl rfl (xo (q_pick_f rfl h5 rfl) rfl (xm rfl rfl (gn rfl rfl rfl rfl (gn rfl rfl rfl rfl (gn rfl rfl rfl rfl (gn rfl rfl rfl rfl (gn rfl rfl rfl rfl (xo (q_pick_f rfl rfl rfl) rfl (xm rfl rfl (gn rfl rfl rfl rfl (gn rfl rfl rfl rfl (gn rfl rfl rfl rfl (gn rfl rfl rfl rfl (gn rfl rfl rfl rfl (xo (q_pick_f rfl rfl rfl) rfl (xm rfl rfl (gn rfl rfl rfl rfl (gn rfl rfl rfl rfl (gn rfl rfl rfl rfl (gn rfl rfl rfl rfl (gn rfl rfl rfl rfl (xo (q_pick_f rfl rfl rfl) rfl (xs rfl rfl (nl (et (ev_ret (ret_pure' ttOk rfl rfl (congrArg bR (?_ : _ = _)))))))))))))))))))))))))))))))))
      simp_all [sameL]
    ·refine gn h4 rfl rfl rfl (gn h4 rfl rfl rfl (gn h4 rfl rfl rfl (gn h4 rfl rfl rfl (gn h4 rfl rfl rfl (xo (q_pick_f rfl h4 rfl) rfl (xm rfl rfl (gn rfl rfl rfl rfl (gn rfl rfl rfl rfl (gn rfl rfl rfl rfl (gn rfl rfl rfl rfl (gn rfl rfl rfl rfl (xo (q_pick_f rfl rfl rfl) rfl (xm rfl rfl (gn rfl rfl rfl rfl (gn rfl rfl rfl rfl (gn rfl rfl rfl rfl (gn rfl rfl rfl rfl (gn rfl rfl rfl rfl (xo (q_pick_f rfl rfl rfl) rfl (xm rfl rfl (gn rfl rfl rfl rfl (gn rfl rfl rfl rfl (gn rfl rfl rfl rfl (gn rfl rfl rfl rfl (gn rfl rfl rfl rfl (xo (q_pick_f rfl rfl rfl) rfl (xm rfl rfl (gn rfl rfl rfl rfl (gn rfl rfl rfl rfl (gn rfl rfl rfl rfl (gn rfl rfl rfl rfl (gn rfl rfl rfl rfl (xo (q_pick_f rfl rfl rfl) rfl (xs rfl rfl (nl (et (ev_ret (ret_pure' ttOk rfl rfl (congrArg bR (?_ : _ = _))))))))))))))))))))))))))))))))))))))))
     simp_all [sameL]
   ·refine gn h3 rfl rfl rfl (gn h3 rfl rfl rfl (gn h3 rfl rfl rfl (gn h3 rfl rfl rfl (gn h3 rfl rfl rfl (xo (q_pick_f rfl h3 rfl) rfl (xm rfl rfl (gn rfl rfl rfl rfl (gn rfl rfl rfl rfl (gn rfl rfl rfl rfl (gn rfl rfl rfl rfl (gn rfl rfl rfl rfl (xo (q_pick_f rfl rfl rfl) rfl (xm rfl rfl (gn rfl rfl rfl rfl (gn rfl rfl rfl rfl (gn rfl rfl rfl rfl (gn rfl rfl rfl rfl (gn rfl rfl rfl rfl (xo (q_pick_f rfl rfl rfl) rfl (xm rfl rfl (gn rfl rfl rfl rfl (gn rfl rfl rfl rfl (gn rfl rfl rfl rfl (gn rfl rfl rfl rfl (gn rfl rfl rfl rfl (xo (q_pick_f rfl rfl rfl) rfl (xm rfl rfl (gn rfl rfl rfl rfl (gn rfl rfl rfl rfl (gn rfl rfl rfl rfl (gn rfl rfl rfl rfl (gn rfl rfl rfl rfl (xo (q_pick_f rfl rfl rfl) rfl (xm rfl rfl (gn rfl rfl rfl rfl (gn rfl rfl rfl rfl (gn rfl rfl rfl rfl (gn rfl rfl rfl rfl (gn rfl rfl rfl rfl (xo (q_pick_f rfl rfl rfl) rfl (xs rfl rfl (nl (et (ev_ret (ret_pure' ttOk rfl rfl (congrArg bR (?_ : _ = _)))))))))))))))))))))))))))))))))))))))))))))))
    simp_all [sameL]
  ·refine gn h2 rfl rfl rfl (gn h2 rfl rfl rfl (gn h2 rfl rfl rfl (gn h2 rfl rfl rfl (gn h2 rfl rfl rfl (xo (q_pick_f rfl h2 rfl) rfl (xm rfl rfl (gn rfl rfl rfl rfl (gn rfl rfl rfl rfl (gn rfl rfl rfl rfl (gn rfl rfl rfl rfl (gn rfl rfl rfl rfl (xo (q_pick_f rfl rfl rfl) rfl (xm rfl rfl (gn rfl rfl rfl rfl (gn rfl rfl rfl rfl (gn rfl rfl rfl rfl (gn rfl rfl rfl rfl (gn rfl rfl rfl rfl (xo (q_pick_f rfl rfl rfl) rfl (xm rfl rfl (gn rfl rfl rfl rfl (gn rfl rfl rfl rfl (gn rfl rfl rfl rfl (gn rfl rfl rfl rfl (gn rfl rfl rfl rfl (xo (q_pick_f rfl rfl rfl) rfl (xm rfl rfl (gn rfl rfl rfl rfl (gn rfl rfl rfl rfl (gn rfl rfl rfl rfl (gn rfl rfl rfl rfl (gn rfl rfl rfl rfl (xo (q_pick_f rfl rfl rfl) rfl (xm rfl rfl (gn rfl rfl rfl rfl (gn rfl rfl rfl rfl (gn rfl rfl rfl rfl (gn rfl rfl rfl rfl (gn rfl rfl rfl rfl (xo (q_pick_f rfl rfl rfl) rfl (xm rfl rfl (gn rfl rfl rfl rfl (gn rfl rfl rfl rfl (gn rfl rfl rfl rfl (gn rfl rfl rfl rfl (gn rfl rfl rfl rfl (xo (q_pick_f rfl rfl rfl) rfl (xs rfl rfl (nl (et ?_))))))))))))))))))))))))))))))))))))))))))))))))))
   refine ev_ret (ret_pure' ttOk rfl rfl (congrArg bR (?_ : _ = _)))
   simp_all [sameL]
 ·refine gn h1 rfl rfl rfl (gn h1 rfl rfl rfl (gn h1 rfl rfl rfl (gn h1 rfl rfl rfl (gn h1 rfl rfl rfl (gn h1 rfl rfl rfl (gn h1 rfl rfl rfl (xo (q_pick_f rfl h1 rfl) rfl (xm rfl rfl (gn rfl rfl rfl rfl (gn rfl rfl rfl rfl (gn rfl rfl rfl rfl (gn rfl rfl rfl rfl (gn rfl rfl rfl rfl (xo (q_pick_f rfl rfl rfl) rfl (xm rfl rfl (gn rfl rfl rfl rfl (gn rfl rfl rfl rfl (gn rfl rfl rfl rfl (gn rfl rfl rfl rfl (gn rfl rfl rfl rfl (xo (q_pick_f rfl rfl rfl) rfl (xm rfl rfl (gn rfl rfl rfl rfl (gn rfl rfl rfl rfl (gn rfl rfl rfl rfl (gn rfl rfl rfl rfl (gn rfl rfl rfl rfl (xo (q_pick_f rfl rfl rfl) rfl (xm rfl rfl (gn rfl rfl rfl rfl (gn rfl rfl rfl rfl (gn rfl rfl rfl rfl (gn rfl rfl rfl rfl (gn rfl rfl rfl rfl (xo (q_pick_f rfl rfl rfl) rfl (xm rfl rfl (gn rfl rfl rfl rfl (gn rfl rfl rfl rfl (gn rfl rfl rfl rfl (gn rfl rfl rfl rfl (gn rfl rfl rfl rfl (xo (q_pick_f rfl rfl rfl) rfl (xm rfl rfl (gn rfl rfl rfl rfl (gn rfl rfl rfl rfl (gn rfl rfl rfl rfl (gn rfl rfl rfl rfl (gn rfl rfl rfl rfl (xo (q_pick_f rfl rfl rfl) rfl (xm rfl rfl ?_))))))))))))))))))))))))))))))))))))))))))))))))))
  refine gn rfl rfl rfl rfl (gn rfl rfl rfl rfl (gn rfl rfl rfl rfl (gn rfl rfl rfl rfl (gn rfl rfl rfl rfl (xo (q_pick_f rfl rfl rfl) rfl (xs rfl rfl (nl (et (ev_ret (ret_pure' ttOk rfl rfl (congrArg bR (?_ : _ = _))))))))))))
  simp_all [sameL]
def zeroD : Disk := ⟨[], []⟩
def zeroT : Two := ⟨zeroD, zeroD⟩
def wroteOk (d : Disk) (x : Int) (row : List Int) : Bool := hasAt d x && (rowOk row && decide (d.wait.length < 60))
theorem wroteOk1 {d : Disk} {x : Int} {row : List Int} (h : hasAt d x = false) : wroteOk d x row = false := by simp [wroteOk, h]
theorem wroteOk2 {d : Disk} {x : Int} {row : List Int} (h : rowOk row = false) : wroteOk d x row = false := by simp [wroteOk, h]
theorem wroteOk3 {d : Disk} {x : Int} {row : List Int} (h : 60 ≤ d.wait.length) : wroteOk d x row = false := by
 have : ¬ d.wait.length < 60 := by omega
 simp [wroteOk, this]
def wroteF (d : Disk) (x : Int) (row : List Int) : Disk × Bool := if diskOk d then if wroteOk d x row then (⟨d.kept, d.wait ++ [(x, row)]⟩, true) else (d, false) else (zeroD, false)
theorem wrote_no {d : Disk} {x : Int} {row : List Int} (h : diskOk d = false) : wroteF d x row = (zeroD, false) := by simp [wroteF, h]
theorem wrote_fail {d : Disk} {x : Int} {row : List Int} (h : diskOk d = true) (h2 : wroteOk d x row = false) : wroteF d x row = (d, false) := by simp [wroteF, h, h2]
theorem wrote_yes {d : Disk} {x : Int} {row : List Int} (h : diskOk d = true) (h2 : wroteOk d x row = true) : wroteF d x row = (⟨d.kept, d.wait ++ [(x, row)]⟩, true) := by simp [wroteF, h, h2]
def bothWroteF (t : Two) (x : Int) (row : List Int) : Two × Bool := if twoOk t then if canSum row && ((wroteF t.a x (withSumF row)).2 && (wroteF t.b x (withSumF row)).2) then (⟨(wroteF t.a x (withSumF row)).1, (wroteF t.b x (withSumF row)).1⟩, true) else (t, false) else (zeroT, false)
theorem both_no {t : Two} {x : Int} {row : List Int} (h : twoOk t = false) : bothWroteF t x row = (zeroT, false) := by simp [bothWroteF, h]
theorem both_fail {t : Two} {x : Int} {row : List Int} (h : twoOk t = true) (h2 : (canSum row && ((wroteF t.a x (withSumF row)).2 && (wroteF t.b x (withSumF row)).2)) = false) : bothWroteF t x row = (t, false) := by simp only [bothWroteF, h, h2]; rfl
theorem both_yes {t : Two} {x : Int} {row : List Int} (h : twoOk t = true) (h1 : canSum row = true) (h2 : (wroteF t.a x (withSumF row)).2 = true) (h3 : (wroteF t.b x (withSumF row)).2 = true) : bothWroteF t x row = (⟨(wroteF t.a x (withSumF row)).1, (wroteF t.b x (withSumF row)).1⟩, true) := by simp [bothWroteF, h, h1, h2, h3]
def newDiskF (n : Int) : Disk := if 1 ≤ n ∧ n ≤ 40 then ⟨List.replicate n.toNat [], []⟩ else zeroD
def newTwoF (n : Int) : Two := ⟨newDiskF n, newDiskF n⟩
theorem c_Wrote' (d : Disk) (x : Int) (row : List Int) : Pure Tryz.prog 250 [many (diskC d), one (iC x), one (ints row)] [many' (diskR ((wroteF d x row).1)), one' (RC.v (.bool ((wroteF d x row).2)))] := by
 refine pure_intro (N := 41) Tryz.func250 rfl rfl rfl rfl (fun H w => ?_)
 refine sq (rg (evl_e (e_box rfl rfl rfl rfl) (evl_e (e_alloc ttOk rfl rfl rfl rfl) (xs rfl rfl (nl (et (sq (sq (rg (xl ttOk rfl rfl (evl_call (nm := 10) (cf rfl) (c_DiskOk' d) (rs_of rfl) rfl rfl rfl (xo (q_not rfl) rfl (nl (et (ev_cond_n rfl (fun h1 => ?_) (fun h1 => ?_))))))))))))))))
 try have d1 := of_decide_eq_false h1
 refine sq (rg (xo (q_build ttOk rfl) rfl (xst ttOk rfl rfl (xs rfl rfl (nl (et (ev_ret (evr_then (ret_pureN ttOk rfl rfl ?_)))))))))
 rotate_left
 try have d1 := of_decide_eq_true h1
 have hs := diskOk_sizes h1
 refine ev_skip (et (sq (rg (xl ttOk rfl rfl (evl_call (nm := 14) (cf rfl) (c_copyDisk d ‹_›) (rs_of rfl) rfl rfl rfl (evl_e (e_alloc ttOk rfl rfl rfl rfl) (xst ttOk rfl rfl (nl (et (sq (sq (rg (xl ttOk rfl rfl (xm rfl rfl (evl_call (nm := 17) (cf rfl) (c_sectorOk d _) (rs_of rfl) rfl rfl rfl (xo (q_not rfl) rfl (xm rfl rfl (evl_partn rfl rfl (fun h2 => ?_) (fun h2 => ?_)))))))))))))))))))
 try have d2 := of_decide_eq_false h2
 refine gn (nt h2) rfl rfl rfl (gn (nt h2) rfl rfl rfl (gn (nt h2) rfl rfl rfl (xo (q_pick_t rfl (nt h2) rfl) rfl (xm rfl rfl (gn rfl rfl rfl rfl (gn rfl rfl rfl rfl (gn rfl rfl rfl rfl (gn rfl rfl rfl rfl (xo (q_pick_t rfl rfl rfl) rfl (nl (et (ev_cond_kt rfl rfl (sq (rg (xl ttOk rfl rfl (xst ttOk rfl rfl (xs rfl rfl (nl (et (ev_ret (evr_then (ret_pureN ttOk rfl rfl ?_))))))))))))))))))))))
 rotate_left
 try have d2 := of_decide_eq_true h2
 refine gm (nf h2) rfl rfl rfl rfl (evl_callg rfl rfl (nf h2) (nm := 21) (cf rfl) (c_RowOk' _) (rs_of rfl) rfl rfl rfl (go (nf h2) rfl rfl (q_not rfl) rfl (xo (q_pick_f rfl (nf h2) rfl) rfl (xm rfl rfl (evl_partn rfl rfl (fun h3 => ?_) (fun h3 => ?_))))))
 try have d3 := of_decide_eq_false h3
 refine gn (nt h3) rfl rfl rfl (gn (nt h3) rfl rfl rfl (gn (nt h3) rfl rfl rfl (gn (nt h3) rfl rfl rfl (xo (q_pick_t rfl (nt h3) rfl) rfl (nl (et (ev_cond_kt rfl rfl (sq (rg (xl ttOk rfl rfl (xst ttOk rfl rfl (xs rfl rfl (nl (et (ev_ret (evr_then (ret_pureN ttOk rfl rfl ?_)))))))))))))))))
 rotate_left
 try have d3 := of_decide_eq_true h3
 have hr := (rowOk_nums h3).1
 refine go (nf h3) rfl rfl (q_fieldAddr ttOk rfl) rfl (go (nf h3) rfl rfl (q_load ttOk rfl) rfl (go (nf h3) rfl rfl (q_len_map ttOk rfl rfl) rfl (go (nf h3) rfl rfl (q_bin ttOk rfl) rfl (xo (q_pick_f rfl (nf h3) rfl) rfl (nl (et (ev_cond rfl (fun h4 => ?_) (fun h4 => ?_))))))))
 try have d4 := of_decide_eq_true h4
 refine sq (rg (xl ttOk rfl rfl (xst ttOk rfl rfl (xs rfl rfl (nl (et (ev_ret (evr_then (ret_pureN ttOk rfl rfl ?_)))))))))
 rotate_left
 try have d4 := of_decide_eq_false h4
 refine ev_skip (et (sq (ev_drawq [7, 9] mo (rk0 0 rfl (q_fieldAddr ttOk rfl) rfl (rk0 1 rfl (q_load ttOk rfl) rfl (rk0 2 rfl (q_move rfl) rfl (rk0 3 rfl (q_move rfl) rfl (rdk_one 4 kr (rdo_call (nm := 35) rfl trivial (cf rfl) (c_copyRow _ om) (rs_of rfl) rfl rfl rfl (rk0 5 rfl (q_build ttOk rfl) rfl (rdk_one 6 kr (rdo_new rfl trivial (e_lit ttOk rfl rfl rfl) (rdk_one 7 kr (rdo_brk rfl rfl trivial (e_app ttOk rfl rfl rfl rfl rfl rfl rfl (by simp; omega) rfl rfl) (rdb_q 8 rfl kr trivial (q_fieldAddr ttOk rfl) rfl (rdb_eff 9 rfl kr trivial (e_store ttOk rfl) (rdb_endq kr (et (ev_pr [6, 7, 8, 40] rfl (sq (rg (xl ttOk rfl rfl (xst ttOk rfl rfl (xs rfl rfl (nl (et (ev_ret (ret_pureN ttOk rfl rfl ?_))))))))))))))))))))))))))))
 rotate_left
 all_goals
  first
  | (rw [wrote_no ‹_›]; simp [RpLe, L2, RcLe, zeroD]; done)
  | (rw [wrote_fail ‹_› (wroteOk1 ‹_›)]; simp [RpLe, L2, RcLe]; done)
  | (rw [wrote_fail ‹_› (wroteOk2 ‹_›)]; simp [RpLe, L2, RcLe]; done)
  | (rw [wrote_fail ‹_› (wroteOk3 om)]; simp [RpLe, L2, RcLe]; done)
  | (rw [wrote_yes ‹_› (by simp only [wroteOk, Bool.and_eq_true, decide_eq_true_eq]; exact ⟨by assumption, by assumption, by omega⟩)]; simp [RpLe, L2, RcLe]; done)
theorem c_NewDisk' (x : Int) : Pure Tryz.prog 221 [one (iC x)] [many' (diskR (newDiskF x))] := by
 refine pure_intro (N := 10) Tryz.func221 rfl rfl rfl rfl (fun H w => ?_)
 refine sq (rg (evl_e (e_alloc ttOk rfl rfl rfl rfl) (nl (et (sq (sq (rg (xm rfl rfl (evl_call (nm := 4) (cf rfl) (c_between _ _ _) (rs_of rfl) rfl rfl rfl (xo (q_not rfl) rfl (nl (et (ev_cond_n rfl (fun h1 => ?_) (fun h1 => ?_))))))))))))))
 ·have hx : ¬ (1 ≤ x ∧ x ≤ 40) := by simpa [inB] using h1
  refine sq (rg (xo (q_build ttOk rfl) rfl (xst ttOk rfl rfl (nl (et (ev_ret (evr_then (ret_pureN ttOk rfl rfl ?_))))))))
  rw [show newDiskF x = zeroD by simp only [newDiskF]; rw [if_neg hx]]; simp [RpLe, L2, RcLe, zeroD]
 ·have hx : 1 ≤ x ∧ x ≤ 40 := by simpa [inB] using h1
  refine ev_skip (et (sq (rg (xm rfl rfl (evl_e (e_make (m := x.toNat) ttOk rfl rfl rfl rfl rfl om om om rfl rfl) (xo (q_build ttOk rfl) rfl (xst ttOk rfl rfl (nl (et (ev_nils (r := 8) (m := 1) (l' := (List.replicate x.toNat ([] : List Int)).map fun r => [ints r]) rfl (by simp [nilTo]) rfl (ev_ret (ret_pureN ttOk rfl rfl ?_))))))))))))
  rw [show newDiskF x = ⟨List.replicate x.toNat [], []⟩ by simp only [newDiskF]; rw [if_pos hx]]; simp [RpLe, L2, RcLe]
theorem c_NewTwo' (x : Int) : Pure Tryz.prog 165 [one (iC x)] [many' (twoR (newTwoF x))] := by
 refine pure_intro (N := 8) Tryz.func165 rfl rfl rfl rfl (fun H w => ?_)
 refine sq (rg (evl_e (e_alloc ttOk rfl rfl rfl rfl) (nl (et (sq (rg (xm rfl rfl (evl_call (nm := 4) (cf rfl) (c_NewDisk' _) (rs_of rfl) rfl rfl rfl (xm rfl rfl (evl_call (nm := 6) (cf rfl) (c_NewDisk' _) (rs_of rfl) rfl rfl rfl (xo (q_build ttOk rfl) rfl (xst ttOk rfl rfl (nl (et (ev_ret (ret_pure' ttOk rfl rfl ?_))))))))))))))))
 rfl
theorem rs_sub_sub {S : St} {x y : Operand} {c z : C} {r n k j ty r2 n2 k2 j2 ty2 : Nat} {l l2 : List (List C)} {cs cs2 : List C} (hx : opv S.T x = some (.p false [.sub r2 n2 k2 j2])) (hr2 : lk S.R r2 = some (ty2, n2, l2)) (hk2 : l2[k2]? = some cs2) (hj2 : cs2[j2]? = some c) (hy : opv S.T y = some (.p false [.sub r n k j])) (hr : lk S.R r = some (ty, n, l)) (hk : l[k]? = some cs) (hj : cs[j]? = some z) : RsA S [x, y] [(false, [c]), (false, [z])] := ⟨⟨_, hx, ⟨ty2, l2, cs2, hr2, hk2, hj2⟩, trivial⟩, ⟨_, hy, ⟨ty, l, cs, hr, hk, hj⟩, trivial⟩, trivial⟩
def tornF (row old : List Int) : List Int := row.take (row.length / 2) ++ old.drop (row.length / 2)
def fallStep (fate : Int) (all : Bool) (K : List (List Int)) (x : Int × List Int) : List (List Int) := if all = true ∨ fate = 1 then K.set x.1.toNat x.2 else if fate = 2 then K.set x.1.toNat (tornF x.2 (K.getD x.1.toNat [])) else K
def fateAt (F : List Int) (k : Nat) : Int := F.getD k 0
def fallUp (d : Disk) (F : List Int) (all : Bool) : Nat → List (List Int)
 | 0 => d.kept
 | k + 1 => fallStep (fateAt F k) all (fallUp d F all k) (d.wait.getD k (0, []))
def fallF (d : Disk) (F : List Int) (all : Bool) : Disk := if diskOk d then ⟨fallUp d F all d.wait.length, []⟩ else zeroD
theorem fall_no {d : Disk} {F : List Int} {all : Bool} (h : diskOk d = false) : fallF d F all = zeroD := by simp [fallF, h]
theorem fall_yes {d : Disk} {F : List Int} {all : Bool} (h : diskOk d = true) : fallF d F all = ⟨fallUp d F all d.wait.length, []⟩ := by simp [fallF, h]
theorem fallUp_len (d : Disk) (F : List Int) (all : Bool) : ∀ k, (fallUp d F all k).length = d.kept.length
 | 0 => rfl
 | k + 1 => by
  have := fallUp_len d F all k
  simp only [fallUp, fallStep]
  split
  ·simpa using this
  ·split
   ·simpa using this
   ·exact this
theorem wait_at {d : Disk} (h : diskOk d = true) {k : Nat} (hk : k < d.wait.length) : 0 ≤ d.wait[k].1 ∧ d.wait[k].1 < d.kept.length ∧ d.wait[k].2.length ≤ 48 := by
 have := (diskOk_sizes h).2.2.2.2 _ (List.getElem_mem hk)
 simp only [writeOk, Bool.and_eq_true] at this
 have h2 := hasAt_iff.1 this.1
 exact ⟨h2.1, h2.2, (rowOk_nums this.2).1⟩
theorem fallUp_rows {d : Disk} (h : diskOk d = true) (F : List Int) (all : Bool) : ∀ k, k ≤ d.wait.length → ∀ r ∈ fallUp d F all k, r.length ≤ 48
 | 0, _ => fun r hr => (rowOk_nums ((diskOk_sizes h).2.2.2.1 r hr)).1
 | k + 1, hk => fun r hr => by
  have ih := fallUp_rows h F all k om
  have hw := wait_at h (k := k) om
  rw [show fallUp d F all (k + 1) = fallStep (fateAt F k) all (fallUp d F all k) d.wait[k] by simp only [fallUp]; rw [getD_lenW (show k < d.wait.length by omega)]] at hr
  have key : ∀ z : List Int, z.length ≤ 48 → r ∈ (fallUp d F all k).set d.wait[k].1.toNat z → r.length ≤ 48 := fun z hz hm => by
   rcases List.mem_or_eq_of_mem_set hm with h9 | h9
   ·exact ih r h9
   ·rw [h9]; exact hz
  simp only [fallStep] at hr
  split at hr
  ·exact key _ hw.2.2 hr
  ·split at hr
   ·refine key _ ?_ hr
    have hx : d.wait[k].1.toNat < (fallUp d F all k).length := by rw [fallUp_len]; omega
    rw [getD_len hx]
    have := ih _ (List.getElem_mem hx)
    simp only [tornF, List.length_append, List.length_take, List.length_drop]
    omega
   ·exact ih r hr
theorem fall_kept {d : Disk} {F : List Int} {all : Bool} {k : Nat} (hk : k < d.wait.length) (h : all = true ∨ fateAt F k = 1) : ((fallUp d F all k).map fun r => [ints r]).set d.wait[k].1.toNat [ints d.wait[k].2] = (fallUp d F all (k + 1)).map fun r => [ints r] := by
 simp only [fallUp, fallStep, getD_lenW hk]
 rw [if_pos h, List.map_set]
theorem fall_torn {d : Disk} {F : List Int} {all : Bool} {k : Nat} (hk : k < d.wait.length) (h0 : ¬ (all = true ∨ fateAt F k = 1)) (h : fateAt F k = 2) (hx : d.wait[k].1.toNat < (fallUp d F all k).length) : ((fallUp d F all k).map fun r => [ints r]).set d.wait[k].1.toNat [ints (tornF d.wait[k].2 (fallUp d F all k)[d.wait[k].1.toNat])] = (fallUp d F all (k + 1)).map fun r => [ints r] := by
 simp only [fallUp, fallStep, getD_lenW hk]
 rw [if_neg h0, if_pos h, List.map_set, getD_len hx]
theorem fall_lost {d : Disk} {F : List Int} {all : Bool} {k : Nat} (h0 : ¬ (all = true ∨ fateAt F k = 1)) (h : ¬ fateAt F k = 2) : ((fallUp d F all k).map fun r => [ints r]) = (fallUp d F all (k + 1)).map fun r => [ints r] := by
 simp only [fallUp, fallStep]
 rw [if_neg h0, if_neg h]
theorem fate_in {F : List Int} {k : Nat} (hk : k < F.length) : fateAt F k = F[k] := by simp [fateAt, hk]
theorem fate_out {F : List Int} {k : Nat} (hk : ¬ k < F.length) : fateAt F k = 0 := by simp [fateAt, hk]
theorem c_BothWrote' (t : Two) (x : Int) (row : List Int) : Pure Tryz.prog 220 [many (twoC t), one (iC x), one (ints row)] [many' (twoR ((bothWroteF t x row).1)), one' (RC.v (.bool ((bothWroteF t x row).2)))] := by
 refine pure_intro (N := 48) Tryz.func220 rfl rfl rfl rfl (fun H w => ?_)
 refine sq (rg (evl_e (e_box rfl rfl rfl rfl) (evl_e (e_alloc ttOk rfl rfl rfl rfl) (xs rfl rfl (nl (et (sq (sq (rg (xl ttOk rfl rfl (evl_call (nm := 15) (cf rfl) (c_TwoOk' t) (rs_of rfl) rfl rfl rfl (xo (q_not rfl) rfl (nl (et (ev_cond_n rfl (fun h1 => ?_) (fun h1 => ?_))))))))))))))))
 ·refine sq (rg (xo (q_build ttOk rfl) rfl (xst ttOk rfl rfl (xs rfl rfl (nl (et (ev_ret (evr_then (ret_pureN ttOk rfl rfl ?_)))))))))
  first
  | (rw [both_no ‹_›]; simp [RpLe, L2, RcLe, zeroD, zeroT]; done)
  | (rw [both_yes ‹_› ‹_› ‹_› ‹_›]; simp [RpLe, L2, RcLe]; done)
  | (rw [both_fail ‹_› (by simp_all; done)]; simp [RpLe, L2, RcLe]; done)
  | (exfalso; simp_all; done)
 ·obtain ⟨hka, hkb⟩ := twoOk_both h1
  refine ev_skip (et ?_)
  cases hcs : canSum row
  ·refine sq (rg (xm rfl rfl (evl_call (nm := 19) (cf rfl) (c_WithSum_nil row ‹_›) (rs_of rfl) rfl rfl rfl (xs rfl rfl (nl (et (sq (sq (rg (xm rfl rfl ?_))))))))))
   first | refine xb ttOk rfl rfl ?_ | refine xo (q_nilv ttOk rfl rfl ⟨_, _, _, rfl, rfl⟩ (by rw [withSum_yes ‹_›]; simp) rfl rfl) rfl ?_
   refine nl (et (ev_cond_kt rfl (by first | rfl | assumption | exact nt ‹_› | exact nf ‹_›) (sq (rg (xl ttOk rfl rfl (evl_call (nm := 23) (cf rfl) (c_copyTwo t ‹_›) (rs_of rfl) rfl rfl rfl (xst ttOk rfl rfl (xs rfl rfl (nl (et (ev_ret (evr_then (ret_pureN ttOk rfl rfl ?_)))))))))))))
   first
   | (rw [both_no ‹_›]; simp [RpLe, L2, RcLe, zeroD, zeroT]; done)
   | (rw [both_yes ‹_› ‹_› ‹_› ‹_›]; simp [RpLe, L2, RcLe]; done)
   | (rw [both_fail ‹_› (by simp_all; done)]; simp [RpLe, L2, RcLe]; done)
   | (exfalso; simp_all; done)
  ·refine sq (rg (xm rfl rfl (evl_call (nm := 19) (cf rfl) (c_WithSum' row) (rs_of rfl) rfl rfl rfl (xs rfl rfl (nl (et (sq (sq (rg (xm rfl rfl ?_))))))))))
   first | refine xb ttOk rfl rfl ?_ | refine xo (q_nilv ttOk rfl rfl ⟨_, _, _, rfl, rfl⟩ (by rw [withSum_yes ‹_›]; simp) rfl rfl) rfl ?_
   refine nl (et (ev_cond_kf rfl (by first | rfl | assumption | exact nt ‹_› | exact nf ‹_›) (ev_skip (et (sq (rg (xl ttOk rfl rfl (evl_callv (cf rfl) hands_disks rfl rfl rfl rfl (evl_e (e_alloc ttOk rfl rfl rfl rfl) (xst ttOk rfl rfl (nl (et (sq (sq (rg (xl ttOk rfl rfl (xm rfl rfl (nl (et (ev_blk (ev_rounds 2 (sq (rg (xb ttOk rfl rfl (nl (et (sq (ev_cond_kt rfl (by first | rfl | assumption | exact nt ‹_› | exact nf ‹_›) (ev_skip (et (sq (ev_blk (sq (rg (xm rfl rfl ?_)))))))))))))))))))))))))))))))))))
   first | refine xo (q_index 0 ttOk rfl rfl om) rfl ?_ | refine xo (q_index 1 ttOk rfl rfl om) rfl ?_
   refine evl_e (e_alloc ttOk rfl rfl rfl rfl) (xs rfl rfl (xst ttOk rfl rfl (nl (et (sq (rg (xl ttOk rfl rfl (xm rfl rfl (xm rfl rfl ?_)))))))))
   first | refine evl_call (nm := 35) (cf rfl) (c_Wrote' t.a x (withSumF row)) (rs_of rfl) rfl rfl rfl ?_ | refine evl_call (nm := 35) (cf rfl) (c_Wrote' t.b x (withSumF row)) (rs_of rfl) rfl rfl rfl ?_
   refine xm rfl rfl (xo (q_ext rfl) rfl (xo (q_ext rfl) rfl (evl_e (e_alloc ttOk rfl rfl rfl rfl) (xst ttOk rfl rfl (xs rfl rfl (nl (et (sq (sq (rg (xm rfl rfl (xo (q_not rfl) rfl (nl (et (ev_cond_n rfl (fun h2 => ?_) (fun h2 => ?_))))))))))))))))
   ·refine sq (rg (xl ttOk rfl rfl (evl_call (nm := 41) (cf rfl) (c_copyTwo t ‹_›) (rs_of rfl) rfl rfl rfl (xst ttOk rfl rfl (xs rfl rfl (nl (et (ev_ret (evr_then (evr_blk (evr_then (evr_then (evr_blk (evr_then (ret_pureN ttOk rfl rfl ?_)))))))))))))))
    first
    | (rw [both_no ‹_›]; simp [RpLe, L2, RcLe, zeroD, zeroT]; done)
    | (rw [both_yes ‹_› ‹_› ‹_› ‹_›]; simp [RpLe, L2, RcLe]; done)
    | (rw [both_fail ‹_› (by simp_all; done)]; simp [RpLe, L2, RcLe]; done)
    | (exfalso; simp_all; done)
   ·refine ev_skip (et (rg (xm rfl rfl (xl ttOk rfl rfl ?_))))
    first | refine xo (q_ix_arr 0 ttOk rfl rfl om) rfl ?_ | refine xo (q_ix_arr 1 ttOk rfl rfl om) rfl ?_
    refine xst ttOk rfl rfl (nl (eb (et (rg (xa rfl rfl rfl om rfl (xm rfl rfl (nl (eve_again (ev_pr [1, 3, 6, 7, 8, 9, 26, 27] rfl (ev_remB [11, 12] rfl (sq (rg (xb ttOk rfl rfl (nl (et (sq (ev_cond_kt rfl (by first | rfl | assumption | exact nt ‹_› | exact nf ‹_›) (ev_skip (et (sq (ev_blk (sq (rg (xm rfl rfl ?_))))))))))))))))))))))))
    first | refine xo (q_index 0 ttOk rfl rfl om) rfl ?_ | refine xo (q_index 1 ttOk rfl rfl om) rfl ?_
    refine evl_e (e_alloc ttOk rfl rfl rfl rfl) (xs rfl rfl (xst ttOk rfl rfl (nl (et (sq (rg (xl ttOk rfl rfl (xm rfl rfl (xm rfl rfl ?_)))))))))
    first | refine evl_call (nm := 1000035) (cf rfl) (c_Wrote' t.a x (withSumF row)) (rs_of rfl) rfl rfl rfl ?_ | refine evl_call (nm := 1000035) (cf rfl) (c_Wrote' t.b x (withSumF row)) (rs_of rfl) rfl rfl rfl ?_
    refine xm rfl rfl (xo (q_ext rfl) rfl (xo (q_ext rfl) rfl (evl_e (e_alloc ttOk rfl rfl rfl rfl) (xst ttOk rfl rfl (xs rfl rfl (nl (et (sq (sq (rg (xm rfl rfl (xo (q_not rfl) rfl (nl (et (ev_cond_n rfl (fun h3 => ?_) (fun h3 => ?_))))))))))))))))
    ·refine sq (rg (xl ttOk rfl rfl (evl_call (nm := 1000041) (cf rfl) (c_copyTwo t ‹_›) (rs_of rfl) rfl rfl rfl (xst ttOk rfl rfl (xs rfl rfl (nl (et (ev_ret (evr_then (evr_blk (evr_then (evr_then (evr_blk (evr_then (ret_pureN ttOk rfl rfl ?_)))))))))))))))
     first
     | (rw [both_no ‹_›]; simp [RpLe, L2, RcLe, zeroD, zeroT]; done)
     | (rw [both_yes ‹_› ‹_› ‹_› ‹_›]; simp [RpLe, L2, RcLe]; done)
     | (rw [both_fail ‹_› (by simp_all; done)]; simp [RpLe, L2, RcLe]; done)
     | (exfalso; simp_all; done)
    ·refine ev_skip (et (rg (xm rfl rfl (xl ttOk rfl rfl ?_))))
     first | refine xo (q_ix_arr 0 ttOk rfl rfl om) rfl ?_ | refine xo (q_ix_arr 1 ttOk rfl rfl om) rfl ?_
     refine xst ttOk rfl rfl (nl (eb (et (rg (xa rfl rfl rfl om rfl (xm rfl rfl (nl (eve_again (ev_pr [1, 3, 6, 7, 8, 9, 26, 27] rfl (ev_remB [11, 12] rfl (sq (rg (xb ttOk rfl rfl (nl (et (sq (ev_cond_kf rfl (by first | rfl | assumption | exact nt ‹_› | exact nf ‹_›) (ev_exit (evx_then (evx_then (evx_hit (et (sq (rg (xl ttOk rfl rfl (evl_callv (cf rfl) hands_twoOf rfl rfl rfl rfl (xst ttOk rfl rfl (xs rfl rfl (nl (et (ev_ret (ret_pureN ttOk rfl rfl ?_))))))))))))))))))))))))))))))))
     first
     | (rw [both_no ‹_›]; simp [RpLe, L2, RcLe, zeroD, zeroT]; done)
     | (rw [both_yes ‹_› ‹_› ‹_› ‹_›]; simp [RpLe, L2, RcLe]; done)
     | (rw [both_fail ‹_› (by simp_all; done)]; simp [RpLe, L2, RcLe]; done)
     | (exfalso; simp_all; done)
theorem c_torn (row old : List Int) (h : row.length ≤ 48 ∧ old.length ≤ 48) : Pure Tryz.prog 232 [one (ints row), one (ints old)] [one' (intsR 2 (tornF row old))] := by
 refine pure_intro (N := 24) Tryz.func232 rfl rfl rfl rfl (fun H w => ?_)
 refine sq (rg (xs rfl rfl (nl (et (sq (rg (xm rfl rfl (xo (q_len_map ttOk rfl rfl) rfl (xo (q_quo_pos rfl rfl om) rfl (xs rfl rfl (nl (et (sq (rg (xm rfl rfl (xm rfl rfl (xo (q_sl_to_map (k := row.length / 2) ttOk rfl rfl rfl om om) rfl (evl_call (nm := 13) (cf rfl) (c_copyRow _ (by simp; omega)) (rs_of rfl) rfl rfl rfl (xs rfl rfl (nl (et (sq (sq (rg (xm rfl rfl (xo (q_len_map ttOk rfl rfl) rfl (xm rfl rfl (xb ttOk rfl rfl (nl (et (ev_cond rfl (fun h1 => ?_) (fun h1 => ?_))))))))))))))))))))))))))))))))
 ·try have d1 := of_decide_eq_true h1
  refine rg (xm rfl rfl (xm rfl rfl (xm rfl rfl (xo (q_sl_from_map (k := row.length / 2) ttOk rfl rfl rfl om om) rfl (evl_e (e_app_c ttOk rfl rfl rfl rfl rfl (flat_ints _) (by simp; omega) rfl rfl) (xs rfl rfl (nl (et (sq (rg (xm rfl rfl (xs rfl rfl (nl (et (ev_ret (ret_pure' ttOk rfl rfl ?_))))))))))))))))
  rw [← List.map_append]; rfl
 ·try have d1 := of_decide_eq_false h1
  refine ev_skip (et (sq (rg (xm rfl rfl (xs rfl rfl (nl (et (ev_ret (ret_pure' ttOk rfl rfl ?_)))))))))
  rw [show tornF row old = row.take (row.length / 2) by simp only [tornF]; rw [List.drop_of_length_le om, List.append_nil]]
end Go.Proofs.YtinmcdcmidlgpaaGreatDoor
