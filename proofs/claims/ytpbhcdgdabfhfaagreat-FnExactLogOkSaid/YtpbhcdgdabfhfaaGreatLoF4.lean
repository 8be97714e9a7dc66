/- Walks of functions of the program, printed by a program of the prover. -/
import Derived.Test.YtpbhcdgdabfhfaaGreatLoF1
namespace Go.Proofs.YtpbhcdgdabfhfaaGreat
open Go.ChangeShapes Go.WideShapes Go.ChangeAt Go.RowKit
set_option linter.unusedVariables false
set_option linter.unusedSimpArgs false
set_option maxHeartbeats 1000000
set_option maxRecDepth 100000
attribute [local irreducible] EvL Ev EvE Quiet Eff Pure RDk RDb RDo
structure Mark where
  client : Int
  seq : Int
  index : Int
structure Ack where
  client : Int
  seq : Int
  index : Int
  last : Int
structure Entry where
  index : Int
  time : Int
  client : Int
  seq : Int
  kind : Int
  a : Int
  b : Int
  c : Int
  d : Int
def Mark.nums (m : Mark) : List Int := [m.client, m.seq, m.index]
def Ack.nums (m : Ack) : List Int := [m.client, m.seq, m.index, m.last]
def Entry.nums (e : Entry) : List Int := [e.index, e.time, e.client, e.seq, e.kind, e.a, e.b, e.c, e.d]
@[reducible] def markC (m : Mark) : List C := [iC m.client, iC m.seq, iC m.index]
@[reducible] def ackC (m : Ack) : List C := [iC m.client, iC m.seq, iC m.index, iC m.last]
@[reducible] def entryC (e : Entry) : List C := [iC e.index, iC e.time, iC e.client, iC e.seq, iC e.kind, iC e.a, iC e.b, iC e.c, iC e.d]
theorem Mark.ext' {a b : Mark} (h : a.nums = b.nums) : a = b := by cases a; cases b; simp_all [Mark.nums]
theorem Ack.ext' {a b : Ack} (h : a.nums = b.nums) : a = b := by cases a; cases b; simp_all [Ack.nums]
theorem Entry.ext' {a b : Entry} (h : a.nums = b.nums) : a = b := by cases a; cases b; simp_all [Entry.nums]
@[reducible] def marks (l : List Mark) : C := .s 3 (l.map markC)
@[reducible] def acks (l : List Ack) : C := .s 4 (l.map ackC)
@[reducible] def entries (l : List Entry) : C := .s 9 (l.map entryC)
def eqN {α : Type} (f : α → List Int) (l m : List α) : Bool := decide (l.map f = m.map f)
theorem eqN_len {α : Type} {f : α → List Int} {l m : List α} (h : (l.length : Int) ≠ m.length) : eqN f l m = false := decide_eq_false fun e => h (by have := congrArg List.length e; simp at this; rw [this])
theorem eqN_at {α : Type} {f : α → List Int} {l m : List α} {k : Nat} (h1 : k < l.length) (h2 : k < m.length) (h : f l[k] ≠ f m[k]) : eqN f l m = false := decide_eq_false fun e => h (by
  have := congrArg (fun x => x[k]?) e
  simpa [h1, h2] using this)
theorem takeN {α : Type} {f : α → List Int} {l m : List α} {k : Nat} (h1 : k < l.length) (h2 : k < m.length) (hp : (l.take k).map f = (m.take k).map f) (h : f l[k] = f m[k]) : (l.take (k + 1)).map f = (m.take (k + 1)).map f := by
  rw [List.take_succ_eq_append_getElem h1, List.take_succ_eq_append_getElem h2, List.map_append, List.map_append, hp]
  simp [h]
theorem takeN_all {α : Type} {f : α → List Int} {l m : List α} {k : Nat} (h1 : ¬ k < l.length) (h2 : l.length = m.length) (hp : (l.take k).map f = (m.take k).map f) : eqN f l m = true := decide_eq_true (by
  rwa [List.take_of_length_le (by omega), List.take_of_length_le (by omega)] at hp)
theorem c_SameSeen (l m : List Mark) : Pure Tryz.prog 75 [one (marks l), one (marks m)] (bR (eqN Mark.nums l m)) := by
 refine pure_intro (N := 26) Tryz.func75 rfl rfl rfl rfl (fun H w => ?_)
 refine ev_lenm (t := 0) rfl (fun hL => ?_)
 refine ev_lenm (t := 1) rfl (fun hM => ?_)
 refine sq (rg (xs rfl rfl (nl (et (sq (sq (rg (xm rfl rfl (xo (q_len_map ttOk rfl rfl) rfl (xm rfl rfl (xo (q_len_map ttOk rfl rfl) rfl (xb ttOk rfl rfl (nl (et (ev_cond rfl (fun h1 => ?_) (fun h1 => ?_))))))))))))))))
 · have d1 := of_decide_eq_true h1
   refine sq (rg (xs rfl rfl (nl (et (ev_ret (evr_then (ret_pure' ttOk rfl rfl (congrArg bR (?_ : _ = _)))))))))
   rw [eqN_len d1]
 · have d1 := of_decide_eq_false h1
   have hlen : l.length = m.length := by omega
   refine ev_skip (et (sq (sq (rg (xs rfl rfl (nl (et (ev_blk (ev_loop (fun k : Nat => (⟨[(5, iV k), (0, cV (marks l)), (1, cV (marks m))], [], [], []⟩ : St)) (fun k => k ≤ l.length ∧ (l.take k).map Mark.nums = (m.take k).map Mark.nums) (fun k => l.length - k) 0 [] (⟨by simp, by simp⟩) ⟨by (repeat first | exact trivial | refine ⟨rfl, ?_⟩), by (repeat first | exact trivial | refine ⟨rfl, ?_⟩), by (repeat first | exact trivial | refine ⟨⟨_, rfl, rfl⟩, ?_⟩), by (repeat first | exact trivial | refine ⟨⟨_, rfl, rfl⟩, ?_⟩), rfl⟩ ?_)))))))))
   intro k hp
   obtain ⟨p0, p1⟩ := hp
   show Ev _ _ _ _ (⟨[(5, iV k), (0, cV (marks l)), (1, cV (marks m))], [], [], []⟩ : St)
   refine sq (sq (rg (xm rfl rfl (xm rfl rfl (xo (q_len_map ttOk rfl rfl) rfl (xb ttOk rfl rfl (nl (et (ev_cond rfl (fun h2 => ?_) (fun h2 => ?_))))))))))
   · have d2 := of_decide_eq_true h2
     refine ev_skip (et (sq (ev_blk (sq (ev_drawq [] mo (rdk_take 0 rfl (by kernel_rfl) trivial (q_move rfl) rfl (rdk_take 1 rfl (by kernel_rfl) trivial (q_move rfl) rfl (rdk_take 2 rfl (by kernel_rfl) trivial (q_ix_map ttOk rfl rfl rfl rfl (by omega)) rfl (rdk_take 3 rfl (by kernel_rfl) trivial (q_load ttOk rfl) rfl (rdk_take 4 rfl (by kernel_rfl) trivial (q_move rfl) rfl (rdk_take 5 rfl (by kernel_rfl) trivial (q_move rfl) rfl (rdk_take 6 rfl (by kernel_rfl) trivial (q_ix_map ttOk rfl rfl rfl rfl (by omega)) rfl (rdk_take 7 rfl (by kernel_rfl) trivial (q_load ttOk rfl) rfl ?_)))))))))))))
     first | refine rdk_take 8 rfl (by kernel_rfl) trivial (q_eqS (n := 3) (by kernel_rfl) rfl rfl rfl rfl rfl rfl rfl) rfl ?_ | refine rdk_take 8 rfl (by kernel_rfl) trivial (q_bin ttOk rfl) rfl ?_
     refine rdk_endq (by kernel_rfl) (et (ev_cond rfl (fun h3 => ?_) (fun h3 => ?_)))
     · have d3 := of_decide_eq_true h3
       refine sq (rg (xs rfl rfl (nl (et (ev_ret (evr_blk (evr_then (evr_then (evr_blk (evr_then (ret_pure' ttOk rfl rfl (congrArg bR (?_ : _ = _)))))))))))))
       rw [eqN_at (k := k) (by omega) (by omega) d3]
     · have d3 := of_decide_eq_false h3
       refine ev_skip (eb (et (rg (xm rfl rfl (xa rfl rfl rfl (by omega) rfl (xs rfl rfl (nl (eve_round (k + 1) [] ?hp ⟨by (repeat first | exact trivial | refine ⟨rfl, ?_⟩), by (repeat first | exact trivial | refine ⟨rfl, ?_⟩), by (repeat first | exact trivial | refine ⟨⟨_, rfl, rfl⟩, ?_⟩), by (repeat first | exact trivial | refine ⟨⟨_, rfl, rfl⟩, ?_⟩), rfl⟩))))))))
       case hp => exact ⟨⟨by omega, takeN (by omega) (by omega) p1 (Decidable.not_not.1 d3)⟩, by omega⟩
   · have d2 := of_decide_eq_false h2
     refine ev_exit (evx_then (evx_then (evx_hit (et (sq (rg (xs rfl rfl (nl (et (ev_ret (ret_pure' ttOk rfl rfl (congrArg bR (?_ : _ = _)))))))))))))
     exact (takeN_all (by omega) hlen p1).symm
theorem c_eqMarks (l m : List Mark) : Pure Tryz.prog 159 [one (marks l), one (marks m)] (bR (eqN Mark.nums l m)) := by
 refine pure_intro (N := 26) Tryz.func159 rfl rfl rfl rfl (fun H w => ?_)
 refine ev_lenm (t := 0) rfl (fun hL => ?_)
 refine ev_lenm (t := 1) rfl (fun hM => ?_)
 refine sq (rg (xs rfl rfl (nl (et (sq (sq (rg (xm rfl rfl (xo (q_len_map ttOk rfl rfl) rfl (xm rfl rfl (xo (q_len_map ttOk rfl rfl) rfl (xb ttOk rfl rfl (nl (et (ev_cond rfl (fun h1 => ?_) (fun h1 => ?_))))))))))))))))
 · have d1 := of_decide_eq_true h1
   refine sq (rg (xs rfl rfl (nl (et (ev_ret (evr_then (ret_pure' ttOk rfl rfl (congrArg bR (?_ : _ = _)))))))))
   rw [eqN_len d1]
 · have d1 := of_decide_eq_false h1
   have hlen : l.length = m.length := by omega
   refine ev_skip (et (sq (sq (rg (xm rfl rfl (xo (q_len_map ttOk rfl rfl) rfl (xm rfl rfl (nl (et (ev_blk (ev_loop (fun k : Nat => (⟨[(13, iV k), (12, iV l.length), (0, cV (marks l)), (1, cV (marks m))], [], [], []⟩ : St)) (fun k => k ≤ l.length ∧ (l.take k).map Mark.nums = (m.take k).map Mark.nums) (fun k => l.length - k) 0 [] (⟨by simp, by simp⟩) ⟨by (repeat first | exact trivial | refine ⟨rfl, ?_⟩), by (repeat first | exact trivial | refine ⟨rfl, ?_⟩), by (repeat first | exact trivial | refine ⟨⟨_, rfl, rfl⟩, ?_⟩), by (repeat first | exact trivial | refine ⟨⟨_, rfl, rfl⟩, ?_⟩), rfl⟩ ?_)))))))))))
   intro k hp
   obtain ⟨p0, p1⟩ := hp
   show Ev _ _ _ _ (⟨[(13, iV k), (12, iV l.length), (0, cV (marks l)), (1, cV (marks m))], [], [], []⟩ : St)
   refine sq (rg (xb ttOk rfl rfl (nl (et (sq (ev_cond rfl (fun h2 => ?_) (fun h2 => ?_)))))))
   · have d2 := of_decide_eq_true h2
     refine ev_skip (et (sq (ev_blk (sq (rg (xm rfl rfl (xs rfl rfl (nl (et (sq (ev_drawq [] mo (rdk_take 0 rfl (by kernel_rfl) trivial (q_move rfl) rfl (rdk_take 1 rfl (by kernel_rfl) trivial (q_move rfl) rfl (rdk_take 2 rfl (by kernel_rfl) trivial (q_ix_map ttOk rfl rfl rfl rfl (by omega)) rfl (rdk_take 3 rfl (by kernel_rfl) trivial (q_load ttOk rfl) rfl (rdk_take 4 rfl (by kernel_rfl) trivial (q_move rfl) rfl (rdk_take 5 rfl (by kernel_rfl) trivial (q_move rfl) rfl (rdk_take 6 rfl (by kernel_rfl) trivial (q_ix_map ttOk rfl rfl rfl rfl (by omega)) rfl (rdk_take 7 rfl (by kernel_rfl) trivial (q_load ttOk rfl) rfl ?_)))))))))))))))))))
     first | refine rdk_take 8 rfl (by kernel_rfl) trivial (q_eqS (n := 3) (by kernel_rfl) rfl rfl rfl rfl rfl rfl rfl) rfl ?_ | refine rdk_take 8 rfl (by kernel_rfl) trivial (q_bin ttOk rfl) rfl ?_
     refine rdk_endq (by kernel_rfl) (et (ev_cond rfl (fun h3 => ?_) (fun h3 => ?_)))
     · have d3 := of_decide_eq_true h3
       refine sq (rg (xs rfl rfl (nl (et (ev_ret (evr_blk (evr_then (evr_then (evr_blk (evr_then (ret_pure' ttOk rfl rfl (congrArg bR (?_ : _ = _)))))))))))))
       rw [eqN_at (k := k) (by omega) (by omega) d3]
     · have d3 := of_decide_eq_false h3
       refine ev_skip (eb (et (rg (xa rfl rfl rfl (by omega) rfl (xm rfl rfl (nl (eve_round (k + 1) [] ?hp ⟨by (repeat first | exact trivial | refine ⟨rfl, ?_⟩), by (repeat first | exact trivial | refine ⟨rfl, ?_⟩), by (repeat first | exact trivial | refine ⟨⟨_, rfl, rfl⟩, ?_⟩), by (repeat first | exact trivial | refine ⟨⟨_, rfl, rfl⟩, ?_⟩), rfl⟩)))))))
       case hp => exact ⟨⟨by omega, takeN (by omega) (by omega) p1 (Decidable.not_not.1 d3)⟩, by omega⟩
   · have d2 := of_decide_eq_false h2
     refine ev_exit (evx_then (evx_then (evx_hit (et (sq (rg (xs rfl rfl (nl (et (ev_ret (ret_pure' ttOk rfl rfl (congrArg bR (?_ : _ = _)))))))))))))
     exact (takeN_all (by omega) hlen p1).symm
theorem c_eqAcks (l m : List Ack) : Pure Tryz.prog 92 [one (acks l), one (acks m)] (bR (eqN Ack.nums l m)) := by
 refine pure_intro (N := 26) Tryz.func92 rfl rfl rfl rfl (fun H w => ?_)
 refine ev_lenm (t := 0) rfl (fun hL => ?_)
 refine ev_lenm (t := 1) rfl (fun hM => ?_)
 refine sq (rg (xs rfl rfl (nl (et (sq (sq (rg (xm rfl rfl (xo (q_len_map ttOk rfl rfl) rfl (xm rfl rfl (xo (q_len_map ttOk rfl rfl) rfl (xb ttOk rfl rfl (nl (et (ev_cond rfl (fun h1 => ?_) (fun h1 => ?_))))))))))))))))
 · have d1 := of_decide_eq_true h1
   refine sq (rg (xs rfl rfl (nl (et (ev_ret (evr_then (ret_pure' ttOk rfl rfl (congrArg bR (?_ : _ = _)))))))))
   rw [eqN_len d1]
 · have d1 := of_decide_eq_false h1
   have hlen : l.length = m.length := by omega
   refine ev_skip (et (sq (sq (rg (xm rfl rfl (xo (q_len_map ttOk rfl rfl) rfl (xm rfl rfl (nl (et (ev_blk (ev_loop (fun k : Nat => (⟨[(13, iV k), (12, iV l.length), (0, cV (acks l)), (1, cV (acks m))], [], [], []⟩ : St)) (fun k => k ≤ l.length ∧ (l.take k).map Ack.nums = (m.take k).map Ack.nums) (fun k => l.length - k) 0 [] (⟨by simp, by simp⟩) ⟨by (repeat first | exact trivial | refine ⟨rfl, ?_⟩), by (repeat first | exact trivial | refine ⟨rfl, ?_⟩), by (repeat first | exact trivial | refine ⟨⟨_, rfl, rfl⟩, ?_⟩), by (repeat first | exact trivial | refine ⟨⟨_, rfl, rfl⟩, ?_⟩), rfl⟩ ?_)))))))))))
   intro k hp
   obtain ⟨p0, p1⟩ := hp
   show Ev _ _ _ _ (⟨[(13, iV k), (12, iV l.length), (0, cV (acks l)), (1, cV (acks m))], [], [], []⟩ : St)
   refine sq (rg (xb ttOk rfl rfl (nl (et (sq (ev_cond rfl (fun h2 => ?_) (fun h2 => ?_)))))))
   · have d2 := of_decide_eq_true h2
     refine ev_skip (et (sq (ev_blk (sq (rg (xm rfl rfl (xs rfl rfl (nl (et (sq (ev_drawq [] mo (rdk_take 0 rfl (by kernel_rfl) trivial (q_move rfl) rfl (rdk_take 1 rfl (by kernel_rfl) trivial (q_move rfl) rfl (rdk_take 2 rfl (by kernel_rfl) trivial (q_ix_map ttOk rfl rfl rfl rfl (by omega)) rfl (rdk_take 3 rfl (by kernel_rfl) trivial (q_load ttOk rfl) rfl (rdk_take 4 rfl (by kernel_rfl) trivial (q_move rfl) rfl (rdk_take 5 rfl (by kernel_rfl) trivial (q_move rfl) rfl (rdk_take 6 rfl (by kernel_rfl) trivial (q_ix_map ttOk rfl rfl rfl rfl (by omega)) rfl (rdk_take 7 rfl (by kernel_rfl) trivial (q_load ttOk rfl) rfl ?_)))))))))))))))))))
     first | refine rdk_take 8 rfl (by kernel_rfl) trivial (q_eqS (n := 4) (by kernel_rfl) rfl rfl rfl rfl rfl rfl rfl) rfl ?_ | refine rdk_take 8 rfl (by kernel_rfl) trivial (q_bin ttOk rfl) rfl ?_
     refine rdk_endq (by kernel_rfl) (et (ev_cond rfl (fun h3 => ?_) (fun h3 => ?_)))
     · have d3 := of_decide_eq_true h3
       refine sq (rg (xs rfl rfl (nl (et (ev_ret (evr_blk (evr_then (evr_then (evr_blk (evr_then (ret_pure' ttOk rfl rfl (congrArg bR (?_ : _ = _)))))))))))))
       rw [eqN_at (k := k) (by omega) (by omega) d3]
     · have d3 := of_decide_eq_false h3
       refine ev_skip (eb (et (rg (xa rfl rfl rfl (by omega) rfl (xm rfl rfl (nl (eve_round (k + 1) [] ?hp ⟨by (repeat first | exact trivial | refine ⟨rfl, ?_⟩), by (repeat first | exact trivial | refine ⟨rfl, ?_⟩), by (repeat first | exact trivial | refine ⟨⟨_, rfl, rfl⟩, ?_⟩), by (repeat first | exact trivial | refine ⟨⟨_, rfl, rfl⟩, ?_⟩), rfl⟩)))))))
       case hp => exact ⟨⟨by omega, takeN (by omega) (by omega) p1 (Decidable.not_not.1 d3)⟩, by omega⟩
   · have d2 := of_decide_eq_false h2
     refine ev_exit (evx_then (evx_then (evx_hit (et (sq (rg (xs rfl rfl (nl (et (ev_ret (ret_pure' ttOk rfl rfl (congrArg bR (?_ : _ = _)))))))))))))
     exact (takeN_all (by omega) hlen p1).symm
theorem c_SameSeen' (l m : List Mark) : Pure Tryz.prog 88 [one (marks l), one (marks m)] (bR (eqN Mark.nums l m)) := by
 refine pure_intro (N := 8) Tryz.func88 rfl rfl rfl rfl (fun H w => ?_)
 refine sq (rg (xs rfl rfl (nl (et (sq (rg (xm rfl rfl (xm rfl rfl (evl_call (nm := 7) (cf rfl) (c_eqMarks _ _) (rs_of rfl) rfl rfl rfl (xs rfl rfl (nl (et (ev_ret (ret_pure' ttOk rfl rfl ?_))))))))))))))
 rfl

end Go.Proofs.YtpbhcdgdabfhfaaGreat
