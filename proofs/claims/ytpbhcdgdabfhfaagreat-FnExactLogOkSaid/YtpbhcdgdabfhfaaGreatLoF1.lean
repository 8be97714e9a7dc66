/- Walks of functions of the program, printed by a program of the prover. -/
import Derived.Test.YtpbhcdgdabfhfaaGreatLoVT
import Derived.Test.YtpbhcdgdabfhfaaGreatLoVF
import Derived.Test.YtpbhcdgdabfhfaaGreatLoVD
namespace Go.Proofs.YtpbhcdgdabfhfaaGreat
open Go.ChangeShapes Go.WideShapes Go.ChangeAt Go.RowKit
set_option linter.unusedVariables false
set_option linter.unusedSimpArgs false
set_option maxHeartbeats 1000000
set_option maxRecDepth 100000
attribute [local irreducible] EvL Ev EvE Quiet Eff Pure RDk RDb RDo
@[reducible] def one' (c : RC) : Bool × List RC := (false, [c])
@[reducible] def many' (l : List RC) : Bool × List RC := (true, l)
def inB (x a b : Int) : Bool := decide (a ≤ x) && decide (x ≤ b)
def numOk (x : Int) : Bool := inB x 0 1000000000
def rowOk (l : List Int) : Bool := decide (l.length ≤ 48) && l.all numOk
theorem all_take {α : Type} {f : α → Bool} {l : List α} {k : Nat} (hk : k < l.length) (h : ∀ x ∈ l.take k, f x = true) (hf : f l[k] = true) : ∀ x ∈ l.take (k + 1), f x = true := by
  intro x hx
  rw [List.take_succ_eq_append_getElem hk] at hx
  rcases List.mem_append.1 hx with hx | hx
  · exact h x hx
  · rw [List.mem_singleton.1 hx]; exact hf
theorem all_done {α : Type} {f : α → Bool} {l : List α} {k : Nat} (hk : ¬ k < l.length) (h : ∀ x ∈ l.take k, f x = true) : l.all f = true := by
  rw [List.take_of_length_le (by omega)] at h
  simpa using h
theorem all_not {α : Type} {f : α → Bool} {l : List α} {k : Nat} (hk : k < l.length) (hf : f l[k] = false) : l.all f = false := by
  cases h : l.all f with
  | false => rfl
  | true => rw [List.all_eq_true.1 h l[k] (List.getElem_mem hk)] at hf; cases hf
theorem c_l1In (x a b : Int) : Pure Tryz.prog 76 [one (iC x), one (iC a), one (iC b)] (bR (inB x a b)) := by
 refine pure_intro (N := 15) Tryz.func76 rfl rfl rfl rfl (fun H w => ?_)
 refine sq (rg (xs rfl rfl (nl (et (sq (rg (xm rfl rfl (xm rfl rfl (xb ttOk rfl rfl (xm rfl rfl (evl_part rfl rfl (fun h1 => ?_) (fun h1 => ?_))))))))))))
 · have d1 := of_decide_eq_true h1
   refine gm h1 rfl rfl rfl rfl (gm h1 rfl rfl rfl rfl (go h1 rfl rfl (q_bin ttOk rfl) rfl (xo (q_pick_t rfl h1 rfl) rfl (xs rfl rfl (nl (et (ev_ret (ret_pure' ttOk rfl rfl (congrArg bR (?_ : _ = _))))))))))
   simp_all [inB] <;> omega
 · have d1 := of_decide_eq_false h1
   refine gn h1 rfl rfl rfl (gn h1 rfl rfl rfl (gn h1 rfl rfl rfl (xo (q_pick_f rfl h1 rfl) rfl (xs rfl rfl (nl (et (ev_ret (ret_pure' ttOk rfl rfl (congrArg bR (?_ : _ = _))))))))))
   simp_all [inB] <;> omega
theorem c_between (x a b : Int) : Pure Tryz.prog 89 [one (iC x), one (iC a), one (iC b)] (bR (inB x a b)) := by
 refine pure_intro (N := 15) Tryz.func89 rfl rfl rfl rfl (fun H w => ?_)
 refine sq (rg (xs rfl rfl (nl (et (sq (rg (xm rfl rfl (xm rfl rfl (xb ttOk rfl rfl (xm rfl rfl (evl_part rfl rfl (fun h1 => ?_) (fun h1 => ?_))))))))))))
 · have d1 := of_decide_eq_true h1
   refine gm h1 rfl rfl rfl rfl (gm h1 rfl rfl rfl rfl (go h1 rfl rfl (q_bin ttOk rfl) rfl (xo (q_pick_t rfl h1 rfl) rfl (xs rfl rfl (nl (et (ev_ret (ret_pure' ttOk rfl rfl (congrArg bR (?_ : _ = _))))))))))
   simp_all [inB] <;> omega
 · have d1 := of_decide_eq_false h1
   refine gn h1 rfl rfl rfl (gn h1 rfl rfl rfl (gn h1 rfl rfl rfl (xo (q_pick_f rfl h1 rfl) rfl (xs rfl rfl (nl (et (ev_ret (ret_pure' ttOk rfl rfl (congrArg bR (?_ : _ = _))))))))))
   simp_all [inB] <;> omega
theorem c_RowOk (l : List Int) : Pure Tryz.prog 243 [one (ints l)] (bR (rowOk l)) := by
 refine pure_intro (N := 19) Tryz.func243 rfl rfl rfl rfl (fun H w => ?_)
 refine sq (rg (xs rfl rfl (nl (et (sq (sq (rg (xm rfl rfl (xo (q_len_map ttOk rfl rfl) rfl (xb ttOk rfl rfl (nl (et (ev_cond rfl (fun h1 => ?_) (fun h1 => ?_))))))))))))))
 · have d1 := of_decide_eq_true h1
   refine sq (rg (xs rfl rfl (nl (et (ev_ret (evr_then (ret_pure' ttOk rfl rfl (congrArg bR (?_ : _ = _)))))))))
   simp [rowOk]; omega
 · have d1 := of_decide_eq_false h1
   refine ev_skip (et (sq (sq (rg (xs rfl rfl (nl (et (ev_blk (ev_loop (fun k : Nat => (⟨[(3, iV k), (0, cV (ints l))], [], [], []⟩ : St)) (fun k => k ≤ l.length ∧ ∀ x ∈ l.take k, numOk x = true) (fun k => l.length - k) 0 [] (⟨by simp, by simp⟩) ⟨by (repeat first | exact trivial | refine ⟨rfl, ?_⟩), by (repeat first | exact trivial | refine ⟨rfl, ?_⟩), by (repeat first | exact trivial | refine ⟨⟨_, rfl, rfl⟩, ?_⟩), by (repeat first | exact trivial | refine ⟨⟨_, rfl, rfl⟩, ?_⟩), rfl⟩ ?_)))))))))
   intro k hp
   obtain ⟨p0, p1⟩ := hp
   show Ev _ _ _ _ (⟨[(3, iV k), (0, cV (ints l))], [], [], []⟩ : St)
   refine sq (sq (rg (xm rfl rfl (xm rfl rfl (xo (q_len_map ttOk rfl rfl) rfl (xb ttOk rfl rfl (nl (et (ev_cond rfl (fun h2 => ?_) (fun h2 => ?_))))))))))
   · have d2 := of_decide_eq_true h2
     refine ev_skip (et (sq (ev_blk (sq (rg (xm rfl rfl (xm rfl rfl (xo (q_ix_map ttOk rfl rfl rfl rfl (by omega)) rfl (xl ttOk rfl rfl (evl_call (nm := 17) (cf rfl) (c_l1In _ _ _) (rs_of rfl) rfl rfl rfl (xo (q_not rfl) rfl (nl (et (ev_cond_n rfl (fun h3 => ?_) (fun h3 => ?_)))))))))))))))
     · refine sq (rg (xs rfl rfl (nl (et (ev_ret (evr_blk (evr_then (evr_then (evr_blk (evr_then (ret_pure' ttOk rfl rfl (congrArg bR (?_ : _ = _)))))))))))))
       simp [rowOk, all_not (f := numOk) (k := k) (by omega) h3]
     · refine ev_skip (eb (et (rg (xm rfl rfl (xa rfl rfl rfl (by omega) rfl (xs rfl rfl (nl (eve_round (k + 1) [] ?hp ⟨by (repeat first | exact trivial | refine ⟨rfl, ?_⟩), by (repeat first | exact trivial | refine ⟨rfl, ?_⟩), by (repeat first | exact trivial | refine ⟨⟨_, rfl, rfl⟩, ?_⟩), by (repeat first | exact trivial | refine ⟨⟨_, rfl, rfl⟩, ?_⟩), rfl⟩))))))))
       case hp => exact ⟨⟨by omega, all_take (by omega) p1 h3⟩, by omega⟩
   · have d2 := of_decide_eq_false h2
     refine ev_exit (evx_then (evx_then (evx_hit (et (sq (rg (xs rfl rfl (nl (et (ev_ret (ret_pure' ttOk rfl rfl (congrArg bR (?_ : _ = _)))))))))))))
     simp [rowOk, all_done (f := numOk) (k := k) (by omega) p1]; omega
theorem c_RowOk' (l : List Int) : Pure Tryz.prog 245 [one (ints l)] (bR (rowOk l)) := by
 refine pure_intro (N := 18) Tryz.func245 rfl rfl rfl rfl (fun H w => ?_)
 refine sq (rg (xs rfl rfl (nl (et (sq (sq (rg (xm rfl rfl (xo (q_len_map ttOk rfl rfl) rfl (xb ttOk rfl rfl (nl (et (ev_cond rfl (fun h1 => ?_) (fun h1 => ?_))))))))))))))
 · have d1 := of_decide_eq_true h1
   refine sq (rg (xs rfl rfl (nl (et (ev_ret (evr_then (ret_pure' ttOk rfl rfl (congrArg bR (?_ : _ = _)))))))))
   simp [rowOk]; omega
 · have d1 := of_decide_eq_false h1
   refine ev_skip (et (sq (sq (rg (xm rfl rfl (xo (q_len_map ttOk rfl rfl) rfl (xm rfl rfl (nl (et (ev_blk (ev_loop (fun k : Nat => (⟨[(10, iV k), (8, cV (ints l)), (9, iV l.length)], [], [], []⟩ : St)) (fun k => k ≤ l.length ∧ ∀ x ∈ l.take k, numOk x = true) (fun k => l.length - k) 0 [] (⟨by simp, by simp⟩) ⟨by (repeat first | exact trivial | refine ⟨rfl, ?_⟩), by (repeat first | exact trivial | refine ⟨rfl, ?_⟩), by (repeat first | exact trivial | refine ⟨⟨_, rfl, rfl⟩, ?_⟩), by (repeat first | exact trivial | refine ⟨⟨_, rfl, rfl⟩, ?_⟩), rfl⟩ ?_)))))))))))
   intro k hp
   obtain ⟨p0, p1⟩ := hp
   show Ev _ _ _ _ (⟨[(10, iV k), (8, cV (ints l)), (9, iV l.length)], [], [], []⟩ : St)
   refine sq (rg (xb ttOk rfl rfl (nl (et (sq (ev_cond rfl (fun h2 => ?_) (fun h2 => ?_)))))))
   · have d2 := of_decide_eq_true h2
     refine ev_skip (et (sq (ev_blk (sq (rg (xo (q_ix_map ttOk rfl rfl rfl rfl (by omega)) rfl (xl ttOk rfl rfl (xs rfl rfl (nl (et (sq (rg (xm rfl rfl (evl_call (nm := 15) (cf rfl) (c_between _ _ _) (rs_of rfl) rfl rfl rfl (xo (q_not rfl) rfl (nl (et (ev_cond_n rfl (fun h3 => ?_) (fun h3 => ?_)))))))))))))))))))
     · refine sq (rg (xs rfl rfl (nl (et (ev_ret (evr_blk (evr_then (evr_then (evr_blk (evr_then (ret_pure' ttOk rfl rfl (congrArg bR (?_ : _ = _)))))))))))))
       simp [rowOk, all_not (f := numOk) (k := k) (by omega) h3]
     · refine ev_skip (eb (et (rg (xa rfl rfl rfl (by omega) rfl (xm rfl rfl (nl (eve_round (k + 1) [] ?hp ⟨by (repeat first | exact trivial | refine ⟨rfl, ?_⟩), by (repeat first | exact trivial | refine ⟨rfl, ?_⟩), by (repeat first | exact trivial | refine ⟨⟨_, rfl, rfl⟩, ?_⟩), by (repeat first | exact trivial | refine ⟨⟨_, rfl, rfl⟩, ?_⟩), rfl⟩)))))))
       case hp => exact ⟨⟨by omega, all_take (by omega) p1 h3⟩, by omega⟩
   · have d2 := of_decide_eq_false h2
     refine ev_exit (evx_then (evx_then (evx_hit (et (sq (rg (xs rfl rfl (nl (et (ev_ret (ret_pure' ttOk rfl rfl (congrArg bR (?_ : _ = _)))))))))))))
     simp [rowOk, all_done (f := numOk) (k := k) (by omega) p1]; omega

end Go.Proofs.YtpbhcdgdabfhfaaGreat
