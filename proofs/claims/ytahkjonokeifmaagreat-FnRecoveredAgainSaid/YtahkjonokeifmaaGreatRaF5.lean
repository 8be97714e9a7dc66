/- Walks of functions of the program, printed by a program of the prover. -/
import Derived.Test.YtahkjonokeifmaaGreatRaVT
import Derived.Test.YtahkjonokeifmaaGreatRaVF
import Derived.Test.YtahkjonokeifmaaGreatRaVN
namespace Go.Proofs.YtahkjonokeifmaaGreat
open Go.ChangeShapes Go.WideShapes Go.ChangeAt Go.RowKit
set_option linter.unusedVariables false
set_option linter.unusedSimpArgs false
set_option maxHeartbeats 1000000
set_option maxRecDepth 100000
attribute [local irreducible] EvL Ev EvE Quiet Eff Pure RDk RDb RDo
@[reducible] def one' (c : RC) : Bool × List RC := (false, [c])
@[reducible] def many' (l : List RC) : Bool × List RC := (true, l)
def inB (x a b : Int) : Bool := decide (a ≤ x) && decide (x ≤ b)
def numOk (x : Int) : Bool := inB x 0 1000000000
def rowOk (l : List Int) : Bool := decide (l.length ≤ 48) && l.all numOk
theorem all_take {α : Type} {f : α → Bool} {l : List α} {k : Nat} (hk : k < l.length) (h : ∀ x ∈ l.take k, f x = true) (hf : f l[k] = true) : ∀ x ∈ l.take (k + 1), f x = true := by
 intro x hx
 rw [List.take_succ_eq_append_getElem hk] at hx
 rcases List.mem_append.1 hx with hx | hx
 ·exact h x hx
 ·rw [List.mem_singleton.1 hx]; exact hf
theorem all_done {α : Type} {f : α → Bool} {l : List α} {k : Nat} (hk : ¬ k < l.length) (h : ∀ x ∈ l.take k, f x = true) : l.all f = true := by
 rw [List.take_of_length_le om] at h
 simpa using h
theorem all_not {α : Type} {f : α → Bool} {l : List α} {k : Nat} (hk : k < l.length) (hf : f l[k] = false) : l.all f = false := by
 cases h : l.all f with
 | false => rfl
 | true => rw [List.all_eq_true.1 h l[k] (List.getElem_mem hk)] at hf; cases hf
theorem c_l1In (x a b : Int) : Pure Tryz.prog 89 [one (iC x), one (iC a), one (iC b)] (bR (inB x a b)) := by
 refine pure_intro (N := 15) Tryz.func89 rfl rfl rfl rfl (fun H w => ?_)
 refine sq (rg (xs rfl rfl (nl (et (sq (rg (xm rfl rfl (xm rfl rfl (xb ttOk rfl rfl (xm rfl rfl (evl_part rfl rfl (fun h1 => ?_) (fun h1 => ?_))))))))))))
 ·have d1 := of_decide_eq_true h1
  refine gm h1 rfl rfl rfl rfl (gm h1 rfl rfl rfl rfl (go h1 rfl rfl (q_bin ttOk rfl) rfl (xo (q_pick_t rfl h1 rfl) rfl (xs rfl rfl (nl (et (ev_ret (ret_pure' ttOk rfl rfl (congrArg bR (?_ : _ = _))))))))))
  simp_all [inB] <;> omega
 ·have d1 := of_decide_eq_false h1
  refine gn h1 rfl rfl rfl (gn h1 rfl rfl rfl (gn h1 rfl rfl rfl (xo (q_pick_f rfl h1 rfl) rfl (xs rfl rfl (nl (et (ev_ret (ret_pure' ttOk rfl rfl (congrArg bR (?_ : _ = _))))))))))
  simp_all [inB] <;> omega
theorem c_between (x a b : Int) : Pure Tryz.prog 38 [one (iC x), one (iC a), one (iC b)] (bR (inB x a b)) := by
 refine pure_intro (N := 15) Tryz.func38 rfl rfl rfl rfl (fun H w => ?_)
 refine sq (rg (xs rfl rfl (nl (et (sq (rg (xm rfl rfl (xm rfl rfl (xb ttOk rfl rfl (xm rfl rfl (evl_part rfl rfl (fun h1 => ?_) (fun h1 => ?_))))))))))))
 ·have d1 := of_decide_eq_true h1
  refine gm h1 rfl rfl rfl rfl (gm h1 rfl rfl rfl rfl (go h1 rfl rfl (q_bin ttOk rfl) rfl (xo (q_pick_t rfl h1 rfl) rfl (xs rfl rfl (nl (et (ev_ret (ret_pure' ttOk rfl rfl (congrArg bR (?_ : _ = _))))))))))
  simp_all [inB] <;> omega
 ·have d1 := of_decide_eq_false h1
  refine gn h1 rfl rfl rfl (gn h1 rfl rfl rfl (gn h1 rfl rfl rfl (xo (q_pick_f rfl h1 rfl) rfl (xs rfl rfl (nl (et (ev_ret (ret_pure' ttOk rfl rfl (congrArg bR (?_ : _ = _))))))))))
  simp_all [inB] <;> omega
theorem c_RowOk (l : List Int) : Pure Tryz.prog 91 [one (ints l)] (bR (rowOk l)) := by
 refine pure_intro (N := 19) Tryz.func91 rfl rfl rfl rfl (fun H w => ?_)
 refine sq (rg (xs rfl rfl (nl (et (sq (sq (rg (xm rfl rfl (xo (q_len_map ttOk rfl rfl) rfl (xb ttOk rfl rfl (nl (et (ev_cond rfl (fun h1 => ?_) (fun h1 => ?_))))))))))))))
 ·have d1 := of_decide_eq_true h1
  refine sq (rg (xs rfl rfl (nl (et (ev_ret (evr_then (ret_pure' ttOk rfl rfl (congrArg bR (?_ : _ = _)))))))))
  simp [rowOk]; omega
 ·have d1 := of_decide_eq_false h1
  refine ev_skip (et (sq (sq (rg (xs rfl rfl (nl (et (ev_blk (ev_loop (fun k : Nat => (⟨[(3, iV k), (0, cV (ints l))], [], [], []⟩ : St)) (fun k => k ≤ l.length ∧ ∀ x ∈ l.take k, numOk x = true) (fun k => l.length - k) 0 [] (⟨by simp, by simp⟩) lei ?_)))))))))
  intro k hp
  obtain ⟨p0, p1⟩ := hp
  show Ev _ _ _ _ (⟨[(3, iV k), (0, cV (ints l))], [], [], []⟩ : St)
  refine sq (sq (rg (xm rfl rfl (xm rfl rfl (xo (q_len_map ttOk rfl rfl) rfl (xb ttOk rfl rfl (nl (et (ev_cond rfl (fun h2 => ?_) (fun h2 => ?_))))))))))
  ·have d2 := of_decide_eq_true h2
   refine ev_skip (et (sq (ev_blk (sq (rg (xm rfl rfl (xm rfl rfl (xo (q_ix_map ttOk rfl rfl rfl rfl om) rfl (xl ttOk rfl rfl (evl_call (nm := 17) (cf rfl) (c_l1In _ _ _) (rs_of rfl) rfl rfl rfl (xo (q_not rfl) rfl (nl (et (ev_cond_n rfl (fun h3 => ?_) (fun h3 => ?_)))))))))))))))
   ·refine sq (rg (xs rfl rfl (nl (et (ev_ret (evr_blk (evr_then (evr_then (evr_blk (evr_then (ret_pure' ttOk rfl rfl (congrArg bR (?_ : _ = _)))))))))))))
    simp [rowOk, all_not (f := numOk) (k := k) om h3]
   ·refine ev_skip (eb (et (rg (xm rfl rfl (xa rfl rfl rfl om rfl (xs rfl rfl (nl (eve_round (k + 1) [] ?hp lei))))))))
    case hp => exact ⟨⟨by omega, all_take om p1 h3⟩, by omega⟩
  ·have d2 := of_decide_eq_false h2
   refine ev_exit (evx_then (evx_then (evx_hit (et (sq (rg (xs rfl rfl (nl (et (ev_ret (ret_pure' ttOk rfl rfl (congrArg bR (?_ : _ = _)))))))))))))
   simp [rowOk, all_done (f := numOk) (k := k) om p1]; omega
theorem c_RowOk' (l : List Int) : Pure Tryz.prog 96 [one (ints l)] (bR (rowOk l)) := by
 refine pure_intro (N := 18) Tryz.func96 rfl rfl rfl rfl (fun H w => ?_)
 refine sq (rg (xs rfl rfl (nl (et (sq (sq (rg (xm rfl rfl (xo (q_len_map ttOk rfl rfl) rfl (xb ttOk rfl rfl (nl (et (ev_cond rfl (fun h1 => ?_) (fun h1 => ?_))))))))))))))
 ·have d1 := of_decide_eq_true h1
  refine sq (rg (xs rfl rfl (nl (et (ev_ret (evr_then (ret_pure' ttOk rfl rfl (congrArg bR (?_ : _ = _)))))))))
  simp [rowOk]; omega
 ·have d1 := of_decide_eq_false h1
  refine ev_skip (et (sq (sq (rg (xm rfl rfl (xo (q_len_map ttOk rfl rfl) rfl (xm rfl rfl (nl (et (ev_blk (ev_loop (fun k : Nat => (⟨[(10, iV k), (8, cV (ints l)), (9, iV l.length)], [], [], []⟩ : St)) (fun k => k ≤ l.length ∧ ∀ x ∈ l.take k, numOk x = true) (fun k => l.length - k) 0 [] (⟨by simp, by simp⟩) lei ?_)))))))))))
  intro k hp
  obtain ⟨p0, p1⟩ := hp
  show Ev _ _ _ _ (⟨[(10, iV k), (8, cV (ints l)), (9, iV l.length)], [], [], []⟩ : St)
  refine sq (rg (xb ttOk rfl rfl (nl (et (sq (ev_cond rfl (fun h2 => ?_) (fun h2 => ?_)))))))
  ·have d2 := of_decide_eq_true h2
   refine ev_skip (et (sq (ev_blk (sq (rg (xo (q_ix_map ttOk rfl rfl rfl rfl om) rfl (xl ttOk rfl rfl (xs rfl rfl (nl (et (sq (rg (xm rfl rfl (evl_call (nm := 15) (cf rfl) (c_between _ _ _) (rs_of rfl) rfl rfl rfl (xo (q_not rfl) rfl (nl (et (ev_cond_n rfl (fun h3 => ?_) (fun h3 => ?_)))))))))))))))))))
   ·refine sq (rg (xs rfl rfl (nl (et (ev_ret (evr_blk (evr_then (evr_then (evr_blk (evr_then (ret_pure' ttOk rfl rfl (congrArg bR (?_ : _ = _)))))))))))))
    simp [rowOk, all_not (f := numOk) (k := k) om h3]
   ·refine ev_skip (eb (et (rg (xa rfl rfl rfl om rfl (xm rfl rfl (nl (eve_round (k + 1) [] ?hp lei)))))))
    case hp => exact ⟨⟨by omega, all_take om p1 h3⟩, by omega⟩
  ·have d2 := of_decide_eq_false h2
   refine ev_exit (evx_then (evx_then (evx_hit (et (sq (rg (xs rfl rfl (nl (et (ev_ret (ret_pure' ttOk rfl rfl (congrArg bR (?_ : _ = _)))))))))))))
   simp [rowOk, all_done (f := numOk) (k := k) om p1]; omega
def sumStep (s x : Int) : Int := (131 * s + x + 1) % 999999937
def sumF (l : List Int) : Int := l.foldl sumStep 7
def NumsOk (l : List Int) : Prop := ∀ x ∈ l, numOk x = true
theorem numOk_iff {x : Int} : numOk x = true ↔ 0 ≤ x ∧ x ≤ 1000000000 := by simp [numOk, inB]
theorem rowOk_nums {l : List Int} (h : rowOk l = true) : l.length ≤ 48 ∧ NumsOk l := by
 simp only [rowOk, Bool.and_eq_true, decide_eq_true_eq, List.all_eq_true] at h
 exact h
theorem num_at {l : List Int} {k : Nat} (h : NumsOk l) (hk : k < l.length) : 0 ≤ l[k] ∧ l[k] ≤ 1000000000 := numOk_iff.1 (h _ (List.getElem_mem hk))
theorem sum_next {l : List Int} {k : Nat} {s : Int} (hk : k < l.length) (h : s = sumF (l.take k)) : (131 * s + l[k] + 1) % 999999937 = sumF (l.take (k + 1)) := by
 rw [List.take_succ_eq_append_getElem hk, sumF, List.foldl_append, h]; rfl
theorem sum_rng (l : List Int) : 0 ≤ sumF l ∧ sumF l < 999999937 := by
 have key : ∀ (l : List Int) (s : Int), 0 ≤ s ∧ s < 999999937 → 0 ≤ l.foldl sumStep s ∧ l.foldl sumStep s < 999999937 := by
  intro l
  induction l with
  | nil => intro s h; exact h
  | cons x l ih => intro s h; exact ih _ ⟨Int.emod_nonneg _ om, Int.emod_lt_of_pos _ om⟩
 exact key l 7 om
theorem sum_all {l : List Int} {k : Nat} {s : Int} (hk : ¬ k < l.length) (h : s = sumF (l.take k)) : s = sumF l := by rw [h, List.take_of_length_le om]
def canSum (l : List Int) : Bool := rowOk l && decide (l.length < 48)
def withSumF (l : List Int) : List Int := if canSum l then l ++ [sumF l] else []
def sumOfF (l : List Int) : Int := if rowOk l then sumF l else -1
theorem flat_ints (l : List Int) : Flat (l.map fun x => [iC x]) := by
 intro cs hcs c hc
 obtain ⟨x, _, rfl⟩ := List.mem_map.1 hcs
 rw [List.mem_singleton.1 hc]; exact ⟨_, rfl⟩
theorem c_checksum (l : List Int) (h : NumsOk l) : Pure Tryz.prog 116 [one (ints l)] (iR (sumF l)) := by
 refine pure_intro (N := 20) Tryz.func116 rfl rfl rfl rfl (fun H w => ?_)
 refine ev_lenm (t := 0) rfl (fun hL => ?_)
 refine sq (rg (xs rfl rfl (nl (et (sq (rg (xs rfl rfl (nl (et (sq (sq (rg (xm rfl rfl (xo (q_len_map ttOk rfl rfl) rfl (xm rfl rfl (nl (et (ev_blk (ev_loop (fun i : Nat × Int => (⟨[(8, iV i.1), (6, cV (ints l)), (7, iV l.length), (3, iV i.2)], [], [], []⟩ : St)) (fun i => i.1 ≤ l.length ∧ i.2 = sumF (l.take i.1) ∧ 0 ≤ i.2 ∧ i.2 < 999999937) (fun i => l.length - i.1) (0, 7) [] (⟨by simp, rfl, by omega, by omega⟩) lei ?_)))))))))))))))))))
 intro i hp
 obtain ⟨k, s⟩ := i
 have hp : k ≤ l.length ∧ s = sumF (l.take k) ∧ 0 ≤ s ∧ s < 999999937 := hp
 obtain ⟨p0, p1, p2, p3⟩ := hp
 show Ev _ _ _ _ (⟨[(8, iV k), (6, cV (ints l)), (7, iV l.length), (3, iV s)], [], [], []⟩ : St)
 refine sq (rg (xb ttOk rfl rfl (nl (et (sq (ev_cond rfl (fun h1 => ?_) (fun h1 => ?_)))))))
 ·have d1 := of_decide_eq_true h1
  refine ev_skip (et (sq (ev_blk (sq ?_))))
  have hn := num_at h (k := k) om
  refine rg (xo (q_ix_map ttOk rfl rfl rfl rfl om) rfl (xl ttOk rfl rfl (xs rfl rfl (nl (et (rg (xm rfl rfl (xa rfl rfl rfl om rfl (xm rfl rfl (xa rfl rfl rfl om rfl (xa rfl rfl rfl om rfl ?_)))))))))))
  first | refine xo (q_rem_pos rfl rfl om) rfl ?_ | refine xo (q_rem rfl rfl om) rfl ?_
  refine xs rfl rfl (nl (eb (et (rg (xa rfl rfl rfl om rfl (xm rfl rfl (nl (eve_round (k + 1, _) [] ?hp lei))))))))
  case hp => exact ⟨⟨by omega, sum_next om p1, Int.emod_nonneg _ om, Int.emod_lt_of_pos _ om⟩, by omega⟩
 ·have d1 := of_decide_eq_false h1
  refine ev_exit (evx_then (evx_then (evx_hit (et (sq (rg (xm rfl rfl (xs rfl rfl (nl (et (ev_ret (ret_pure' ttOk rfl rfl ?_))))))))))))
  rw [sum_all om p1]
theorem c_copyRow (l : List Int) (hl : l.length ≤ 1000000) : Pure Tryz.prog 98 [one (ints l)] [one' (intsR 2 l)] := by
 refine pure_intro (N := 6) Tryz.func98 rfl rfl rfl rfl (fun H w => ?_)
 refine sq (rg (xs rfl rfl (nl (et (sq (rg (evl_e (e_lit ttOk rfl rfl rfl) (xm rfl rfl (evl_e (e_app_c ttOk rfl rfl rfl rfl rfl (flat_ints l) (by simp; omega) rfl rfl) (xs rfl rfl (nl (et (ev_ret (ret_pure' ttOk rfl rfl ?_))))))))))))))
 rfl
theorem c_l1Copy (l : List Int) (hl : l.length ≤ 1000000) : Pure Tryz.prog 90 [one (ints l)] [one' (intsR 2 l)] := by
 refine pure_intro (N := 6) Tryz.func90 rfl rfl rfl rfl (fun H w => ?_)
 refine sq (rg (xs rfl rfl (nl (et (sq (rg (evl_e (e_lit ttOk rfl rfl rfl) (xm rfl rfl (evl_e (e_app_c ttOk rfl rfl rfl rfl rfl (flat_ints l) (by simp; omega) rfl rfl) (xs rfl rfl (nl (et (ev_ret (ret_pure' ttOk rfl rfl ?_))))))))))))))
 rfl
theorem c_SumOf (l : List Int) : Pure Tryz.prog 92 [one (ints l)] (iR (sumOfF l)) := by
 refine pure_intro (N := 24) Tryz.func92 rfl rfl rfl rfl (fun H w => ?_)
 refine ev_lenm (t := 0) rfl (fun hL => ?_)
 refine sq (rg (xs rfl rfl (nl (et (sq (sq (rg (xm rfl rfl (evl_call (nm := 6) (cf rfl) (c_RowOk _) (rs_of rfl) rfl rfl rfl (xo (q_not rfl) rfl (nl (et (ev_cond_n rfl (fun h1 => ?_) (fun h1 => ?_))))))))))))))
 ·refine sq (rg (xs rfl rfl (nl (et (ev_ret (evr_then (ret_pure' ttOk rfl rfl ?_)))))))
  simp [sumOfF, h1]
 ·have hn0 := (rowOk_nums h1).2
  refine ev_skip (et (sq (rg (xs rfl rfl (nl (et (sq (sq (rg (xs rfl rfl (nl (et (ev_blk (ev_loop (fun i : Nat × Int => (⟨[(4, iV i.1), (0, cV (ints l)), (3, iV i.2)], [], [], []⟩ : St)) (fun i => i.1 ≤ l.length ∧ i.2 = sumF (l.take i.1) ∧ 0 ≤ i.2 ∧ i.2 < 999999937) (fun i => l.length - i.1) (0, 7) [] (⟨by simp, rfl, by omega, by omega⟩) lei ?_))))))))))))))
  intro i hp
  obtain ⟨k, s⟩ := i
  have hp : k ≤ l.length ∧ s = sumF (l.take k) ∧ 0 ≤ s ∧ s < 999999937 := hp
  obtain ⟨p0, p1, p2, p3⟩ := hp
  show Ev _ _ _ _ (⟨[(4, iV k), (0, cV (ints l)), (3, iV s)], [], [], []⟩ : St)
  refine sq (sq (rg (xm rfl rfl (xm rfl rfl (xo (q_len_map ttOk rfl rfl) rfl (xb ttOk rfl rfl (nl (et (ev_cond rfl (fun h2 => ?_) (fun h2 => ?_))))))))))
  ·have d2 := of_decide_eq_true h2
   refine ev_skip (et (sq (ev_blk ?_)))
   have hn := num_at hn0 (k := k) om
   refine rg (xm rfl rfl (xa rfl rfl rfl om rfl (xm rfl rfl (xm rfl rfl (xo (q_ix_map ttOk rfl rfl rfl rfl om) rfl (xl ttOk rfl rfl (xa rfl rfl rfl om rfl (xa rfl rfl rfl om rfl ?_))))))))
   first | refine xo (q_rem_pos rfl rfl om) rfl ?_ | refine xo (q_rem rfl rfl om) rfl ?_
   refine xs rfl rfl (nl (eb (et (rg (xm rfl rfl (xa rfl rfl rfl om rfl (xs rfl rfl (nl (eve_round (k + 1, _) [] ?hp lei)))))))))
   case hp => exact ⟨⟨by omega, sum_next om p1, Int.emod_nonneg _ om, Int.emod_lt_of_pos _ om⟩, by omega⟩
  ·have d2 := of_decide_eq_false h2
   refine ev_exit (evx_then (evx_then (evx_hit (et (sq (rg (xm rfl rfl (xs rfl rfl (nl (et (ev_ret (ret_pure' ttOk rfl rfl ?_))))))))))))
   rw [sum_all om p1]; simp [sumOfF, h1]
theorem sumOf_ok {l : List Int} (h : rowOk l = true) : sumOfF l = sumF l := by simp [sumOfF, h]
theorem withSum_yes {l : List Int} (h : canSum l = true) : withSumF l = l ++ [sumF l] := by simp [withSumF, h]
def unsF (l : List Int) : Option (List Int) := if rowOk l && (decide (0 < l.length) && decide (some (sumF (l.take (l.length - 1))) = l[l.length - 1]?)) then some (l.take (l.length - 1)) else none
theorem uns_yes {l : List Int} (h : rowOk l = true) (h0 : l.length - 1 < l.length) (h1 : sumF (l.take (l.length - 1)) = l[l.length - 1]) : unsF l = some (l.take (l.length - 1)) := by
 have : 0 < l.length := by omega
 simp [unsF, h, List.getElem?_eq_getElem h0, h1, this]
theorem uns_no {l : List Int} (h0 : l.length - 1 < l.length) (h1 : sumF (l.take (l.length - 1)) ≠ l[l.length - 1]) : unsF l = none := by
 simp [unsF, List.getElem?_eq_getElem h0, h1]
theorem rowOk_take {l : List Int} (h : rowOk l = true) (k : Nat) : rowOk (l.take k) = true := by
 obtain ⟨h1, h2⟩ := rowOk_nums h
 simp only [rowOk, Bool.and_eq_true, decide_eq_true_eq, List.all_eq_true, List.length_take]
 exact ⟨by omega, fun x hx => h2 x (List.mem_of_mem_take hx)⟩
def eqL (l m : List Int) : Bool := decide (l = m)
theorem eqL_len {l m : List Int} (h : (l.length : Int) ≠ m.length) : eqL l m = false := by
 unfold eqL
 exact decide_eq_false fun e => h (by rw [e])
theorem eqL_at {l m : List Int} {k : Nat} (h1 : k < l.length) (h2 : k < m.length) (h : l[k] ≠ m[k]) : eqL l m = false := by
 unfold eqL
 exact decide_eq_false fun e => h (by subst e; rfl)
theorem take_eq {α : Type} {l m : List α} {k : Nat} (h1 : k < l.length) (h2 : k < m.length) (hp : l.take k = m.take k) (h : l[k] = m[k]) : l.take (k + 1) = m.take (k + 1) := by
 rw [List.take_succ_eq_append_getElem h1, List.take_succ_eq_append_getElem h2, hp, h]
theorem take_all {α : Type} {l m : List α} {k : Nat} (h1 : ¬ k < l.length) (h2 : l.length = m.length) (hp : l.take k = m.take k) : l = m := by
 rwa [List.take_of_length_le om, List.take_of_length_le om] at hp
theorem c_WithSum (l : List Int) : Pure Tryz.prog 144 [one (ints l)] [one' (intsR 2 (withSumF l))] := by
 refine pure_intro (N := 18) Tryz.func144 rfl rfl rfl rfl (fun H w => ?_)
 refine sq (rg (xs rfl rfl (nl (et (sq (sq (rg (xm rfl rfl (evl_call (nm := 4) (cf rfl) (c_RowOk _) (rs_of rfl) rfl rfl rfl (xo (q_not rfl) rfl (xm rfl rfl (evl_partn rfl rfl (fun h1 => ?_) (fun h1 => ?_)))))))))))))
 ·refine gn (nt h1) rfl rfl rfl (gn (nt h1) rfl rfl rfl (gn (nt h1) rfl rfl rfl (xo (q_pick_t rfl (nt h1) rfl) rfl (nl (et (ev_cond_kt rfl rfl (sq (rg (evl_e (e_lit ttOk rfl rfl rfl) (xs rfl rfl (nl (et (ev_ret (evr_then (ret_pure' ttOk rfl rfl ?_)))))))))))))))
  simp [withSumF, canSum, h1]
 ·have hb := (rowOk_nums h1).1
  refine gm (nf h1) rfl rfl rfl rfl (go (nf h1) rfl rfl (q_len_map ttOk rfl rfl) rfl (go (nf h1) rfl rfl (q_bin ttOk rfl) rfl (xo (q_pick_f rfl (nf h1) rfl) rfl (nl (et (ev_cond rfl (fun h2 => ?_) (fun h2 => ?_)))))))
  ·have d2 := of_decide_eq_true h2
   refine sq (rg (evl_e (e_lit ttOk rfl rfl rfl) (xs rfl rfl (nl (et (ev_ret (evr_then (ret_pure' ttOk rfl rfl ?_))))))))
   have : ¬ l.length < 48 := by omega
   simp [withSumF, canSum, this]
  ·have d2 := of_decide_eq_false h2
   refine ev_skip (et (sq (rg (xm rfl rfl (evl_call (nm := 13) (cf rfl) (c_l1Copy _ om) (rs_of rfl) rfl rfl rfl (xm rfl rfl (evl_call (nm := 15) (cf rfl) (c_SumOf _) (rs_of rfl) rfl rfl rfl (evl_e (e_lit ttOk rfl rfl rfl) (evl_e (e_app ttOk rfl rfl rfl rfl rfl rfl rfl (by simp; omega) rfl rfl) (xs rfl rfl (nl (et (ev_ret (ret_pure' ttOk rfl rfl ?_))))))))))))))
   have : canSum l = true := by simp only [canSum, h1, Bool.true_and, decide_eq_true_eq]; omega
   rw [withSum_yes this, sumOf_ok h1]; simp
theorem c_WithSum' (l : List Int) : Pure Tryz.prog 85 [one (ints l)] [one' (intsR 2 (withSumF l))] := by
 refine pure_intro (N := 17) Tryz.func85 rfl rfl rfl rfl (fun H w => ?_)
 refine sq (rg (xs rfl rfl (nl (et (sq (sq (rg (xm rfl rfl (evl_call (nm := 4) (cf rfl) (c_RowOk' _) (rs_of rfl) rfl rfl rfl (xo (q_not rfl) rfl (xm rfl rfl (evl_partn rfl rfl (fun h1 => ?_) (fun h1 => ?_)))))))))))))
 ·refine gn (nt h1) rfl rfl rfl (gn (nt h1) rfl rfl rfl (gn (nt h1) rfl rfl rfl (xo (q_pick_t rfl (nt h1) rfl) rfl (nl (et (ev_cond_kt rfl rfl (sq (rg (xs rfl rfl (nl (et (ev_ret (evr_then (ret_pureN ttOk rfl rfl ?_))))))))))))))
  simp [withSumF, canSum, h1, RpLe, L2, RcLe]
 ·have hb := (rowOk_nums h1).1
  have hn := (rowOk_nums h1).2
  refine gm (nf h1) rfl rfl rfl rfl (go (nf h1) rfl rfl (q_len_map ttOk rfl rfl) rfl (go (nf h1) rfl rfl (q_bin ttOk rfl) rfl (xo (q_pick_f rfl (nf h1) rfl) rfl (nl (et (ev_cond rfl (fun h2 => ?_) (fun h2 => ?_)))))))
  ·have d2 := of_decide_eq_true h2
   refine sq (rg (xs rfl rfl (nl (et (ev_ret (evr_then (ret_pureN ttOk rfl rfl ?_)))))))
   have : ¬ l.length < 48 := by omega
   simp [withSumF, canSum, this, RpLe, L2, RcLe]
  ·have d2 := of_decide_eq_false h2
   refine ev_skip (et (sq (rg (xm rfl rfl (evl_call (nm := 12) (cf rfl) (c_copyRow _ om) (rs_of rfl) rfl rfl rfl (xm rfl rfl (evl_call (nm := 14) (cf rfl) (c_checksum _ ‹_›) (rs_of rfl) rfl rfl rfl (evl_e (e_lit ttOk rfl rfl rfl) (evl_e (e_app ttOk rfl rfl rfl rfl rfl rfl rfl (by simp; omega) rfl rfl) (xs rfl rfl (nl (et (ev_ret (ret_pure' ttOk rfl rfl ?_))))))))))))))
   have : canSum l = true := by simp only [canSum, h1, Bool.true_and, decide_eq_true_eq]; omega
   rw [withSum_yes this]; simp
theorem c_WithSum_nil (l : List Int) (h : canSum l = false) : Pure Tryz.prog 85 [one (ints l)] [one' RC.nil] := by
 refine pure_intro (N := 17) Tryz.func85 rfl rfl rfl rfl (fun H w => ?_)
 refine sq (rg (xs rfl rfl (nl (et (sq (sq (rg (xm rfl rfl (evl_call (nm := 4) (cf rfl) (c_RowOk' _) (rs_of rfl) rfl rfl rfl (xo (q_not rfl) rfl (xm rfl rfl (evl_partn rfl rfl (fun h1 => ?_) (fun h1 => ?_)))))))))))))
 ·refine gn (nt h1) rfl rfl rfl (gn (nt h1) rfl rfl rfl (gn (nt h1) rfl rfl rfl (xo (q_pick_t rfl (nt h1) rfl) rfl (nl (et (ev_cond_kt rfl rfl (sq (rg (xs rfl rfl (nl (et (ev_ret (evr_then (ret_pure' ttOk rfl rfl ?_))))))))))))))
  rfl
 ·have hb := (rowOk_nums h1).1
  have hn := (rowOk_nums h1).2
  refine gm (nf h1) rfl rfl rfl rfl (go (nf h1) rfl rfl (q_len_map ttOk rfl rfl) rfl (go (nf h1) rfl rfl (q_bin ttOk rfl) rfl (xo (q_pick_f rfl (nf h1) rfl) rfl (nl (et (ev_cond rfl (fun h2 => ?_) (fun h2 => ?_)))))))
  ·have d2 := of_decide_eq_true h2
   refine sq (rg (xs rfl rfl (nl (et (ev_ret (evr_then (ret_pure' ttOk rfl rfl ?_)))))))
   rfl
  ·have d2 := of_decide_eq_false h2
   refine ev_skip (et (sq (rg (xm rfl rfl (evl_call (nm := 12) (cf rfl) (c_copyRow _ om) (rs_of rfl) rfl rfl rfl (xm rfl rfl (evl_call (nm := 14) (cf rfl) (c_checksum _ ‹_›) (rs_of rfl) rfl rfl rfl (evl_e (e_lit ttOk rfl rfl rfl) (evl_e (e_app ttOk rfl rfl rfl rfl rfl rfl rfl (by simp; omega) rfl rfl) (xs rfl rfl (nl (et (ev_ret (ret_pure' ttOk rfl rfl ?_))))))))))))))
   exact absurd h (by simp only [canSum, h1, Bool.true_and]; simp; omega)
theorem c_Unsummed (l : List Int) : Pure Tryz.prog 61 [one (ints l)] [one' (intsR 2 ((unsF l).getD [])), one' (RC.v (.bool (unsF l).isSome))] := by
 refine pure_intro (N := 31) Tryz.func61 rfl rfl rfl rfl (fun H w => ?_)
 refine sq (rg (xs rfl rfl (xs rfl rfl (nl (et (sq (sq (rg (xm rfl rfl (evl_call (nm := 6) (cf rfl) (c_RowOk _) (rs_of rfl) rfl rfl rfl (xo (q_not rfl) rfl (xm rfl rfl (evl_partn rfl rfl (fun h1 => ?_) (fun h1 => ?_))))))))))))))
 ·refine gn (nt h1) rfl rfl rfl (gn (nt h1) rfl rfl rfl (gn (nt h1) rfl rfl rfl (xo (q_pick_t rfl (nt h1) rfl) rfl (nl (et (ev_cond_kt rfl rfl (sq (rg (evl_e (e_lit ttOk rfl rfl rfl) (xs rfl rfl (xs rfl rfl (nl (et (ev_ret (evr_then (ret_pure' ttOk rfl rfl ?_))))))))))))))))
  simp [unsF, h1]
 ·have hb := (rowOk_nums h1).1
  have hn := (rowOk_nums h1).2
  refine gm (nf h1) rfl rfl rfl rfl (go (nf h1) rfl rfl (q_len_map ttOk rfl rfl) rfl (go (nf h1) rfl rfl (q_bin ttOk rfl) rfl (xo (q_pick_f rfl (nf h1) rfl) rfl (nl (et (ev_cond rfl (fun h2 => ?_) (fun h2 => ?_)))))))
  ·have d2 := of_decide_eq_true h2
   refine sq (rg (evl_e (e_lit ttOk rfl rfl rfl) (xs rfl rfl (xs rfl rfl (nl (et (ev_ret (evr_then (ret_pure' ttOk rfl rfl ?_)))))))))
   have : l = [] := List.eq_nil_of_length_eq_zero om
   simp [unsF, this]
  ·have d2 := of_decide_eq_false h2
   refine ev_skip (et (sq (rg (xm rfl rfl (xm rfl rfl (xo (q_len_map ttOk rfl rfl) rfl (xa rfl rfl rfl om rfl (xo (q_sl_to_map (k := l.length - 1) ttOk rfl rfl rfl om om) rfl (evl_call (nm := 19) (cf rfl) (c_l1Copy _ (by simp; omega)) (rs_of rfl) rfl rfl rfl (xs rfl rfl (nl (et (sq (sq (ev_drawq [] mo (rk0 0 rfl (q_move rfl) rfl (rk0 2 rfl (q_move rfl) rfl (rk0 3 rfl (q_move rfl) rfl (rk0 4 rfl (q_len_map ttOk rfl rfl) rfl (rk0 5 rfl (q_ar rfl rfl rfl om) rfl (rk0 6 rfl (q_ix_map (m := l.length - 1) ttOk rfl rfl rfl om om) rfl (rk0 7 rfl (q_load ttOk rfl) rfl (rdk_one 1 kr (rdo_call (nm := 21) rfl trivial (cf rfl) (c_SumOf _) (rs_of rfl) rfl rfl rfl (rk0 8 rfl (q_bin ttOk rfl) rfl (rdk_endq kr (et (ev_cond rfl (fun h3 => ?_) (fun h3 => ?_)))))))))))))))))))))))))))))
   ·have d3 := of_decide_eq_true h3
    refine ev_pr [2, 3, 4, 29, 30] rfl (sq (rg (evl_e (e_lit ttOk rfl rfl rfl) (xs rfl rfl (xs rfl rfl (nl (et (ev_ret (evr_then (ret_pure' ttOk rfl rfl ?_))))))))))
    rw [uns_no om (by rw [← sumOf_ok (rowOk_take h1 _)]; exact d3)]; rfl
   ·have d3 := of_decide_eq_false h3
    refine ev_skip (et (ev_pr [2, 3, 4, 30] rfl (sq (rg (xm rfl rfl (xs rfl rfl (xs rfl rfl (nl (et (ev_ret (ret_pure' ttOk rfl rfl ?_)))))))))))
    rw [uns_yes h1 om (by rw [← sumOf_ok (rowOk_take h1 _)]; exact Decidable.not_not.1 d3)]; rfl
theorem c_Unsummed' (l : List Int) : Pure Tryz.prog 79 [one (ints l)] [one' (intsR 2 ((unsF l).getD [])), one' (RC.v (.bool (unsF l).isSome))] := by
 refine pure_intro (N := 29) Tryz.func79 rfl rfl rfl rfl (fun H w => ?_)
 refine ev_lenm (t := 0) rfl (fun hL => ?_)
 refine sq (rg (xs rfl rfl (xs rfl rfl (nl (et (sq (sq (rg (xm rfl rfl (xo (q_len_map ttOk rfl rfl) rfl (xb ttOk rfl rfl (xm rfl rfl (evl_part rfl rfl (fun h1 => ?_) (fun h1 => ?_))))))))))))))
 ·have d1 := of_decide_eq_true h1
  refine gn h1 rfl rfl rfl (gn h1 rfl rfl rfl (gn h1 rfl rfl rfl (xo (q_pick_t rfl h1 rfl) rfl (nl (et (ev_cond_kt rfl rfl (sq (rg (xs rfl rfl (xs rfl rfl (nl (et (ev_ret (evr_then (ret_pureN ttOk rfl rfl ?_)))))))))))))))
  have : l = [] := List.eq_nil_of_length_eq_zero om
  simp [unsF, this, RpLe, L2, RcLe]
 ·have d1 := of_decide_eq_false h1
  refine gm h1 rfl rfl rfl rfl (evl_callg rfl rfl h1 (nm := 10) (cf rfl) (c_RowOk' _) (rs_of rfl) rfl rfl rfl (go h1 rfl rfl (q_not rfl) rfl (xo (q_pick_f rfl h1 rfl) rfl (nl (et (ev_cond_n rfl (fun h2 => ?_) (fun h2 => ?_)))))))
  ·refine sq (rg (xs rfl rfl (xs rfl rfl (nl (et (ev_ret (evr_then (ret_pureN ttOk rfl rfl ?_))))))))
   simp [unsF, h2, RpLe, L2, RcLe]
  ·have hb := (rowOk_nums h2).1
   have hn := (rowOk_nums h2).2
   refine ev_skip (et (sq (rg (xm rfl rfl (xo (q_len_map ttOk rfl rfl) rfl (xa rfl rfl rfl om rfl (xs rfl rfl (nl (et (sq (sq (ev_drawq [] mo (rk0 0 rfl (q_move rfl) rfl (rk0 1 rfl (q_move rfl) rfl (rk0 2 rfl (q_sl_to_map (k := l.length - 1) ttOk rfl rfl rfl om om) rfl (rk0 4 rfl (q_move rfl) rfl (rk0 5 rfl (q_move rfl) rfl (rk0 6 rfl (q_ix_map (m := l.length - 1) ttOk rfl rfl rfl om om) rfl (rk0 7 rfl (q_load ttOk rfl) rfl (rdk_one 3 kr (rdo_call (nm := 19) rfl trivial (cf rfl) (c_checksum _ (fun x hx => hn x (List.mem_of_mem_take hx))) (rs_of rfl) rfl rfl rfl (rk0 8 rfl (q_bin ttOk rfl) rfl (rdk_endq kr (et (ev_cond rfl (fun h3 => ?_) (fun h3 => ?_))))))))))))))))))))))))))
   ·have d3 := of_decide_eq_true h3
    refine sq (rg (xs rfl rfl (xs rfl rfl (nl (et (ev_ret (evr_then (ret_pureN ttOk rfl rfl ?_))))))))
    rw [uns_no om d3]; simp [RpLe, L2, RcLe]
   ·have d3 := of_decide_eq_false h3
    refine ev_skip (et (sq (rg (xm rfl rfl (xm rfl rfl (xo (q_sl_to_map (k := l.length - 1) ttOk rfl rfl rfl om om) rfl (evl_call (nm := 28) (cf rfl) (c_copyRow _ (by simp; omega)) (rs_of rfl) rfl rfl rfl (xs rfl rfl (xs rfl rfl (nl (et (ev_ret (ret_pure' ttOk rfl rfl ?_)))))))))))))
    rw [uns_yes h2 om (Decidable.not_not.1 d3)]; rfl
structure Mark where
 client : Int
 seq : Int
 index : Int
structure Ack where
 client : Int
 seq : Int
 index : Int
 last : Int
structure Entry where
 index : Int
 time : Int
 client : Int
 seq : Int
 kind : Int
 a : Int
 b : Int
 c : Int
 d : Int
def Mark.nums (m : Mark) : List Int := [m.client, m.seq, m.index]
def Ack.nums (m : Ack) : List Int := [m.client, m.seq, m.index, m.last]
def Entry.nums (e : Entry) : List Int := [e.index, e.time, e.client, e.seq, e.kind, e.a, e.b, e.c, e.d]
@[reducible] def markC (m : Mark) : List C := [iC m.client, iC m.seq, iC m.index]
@[reducible] def ackC (m : Ack) : List C := [iC m.client, iC m.seq, iC m.index, iC m.last]
@[reducible] def entryC (e : Entry) : List C := [iC e.index, iC e.time, iC e.client, iC e.seq, iC e.kind, iC e.a, iC e.b, iC e.c, iC e.d]
theorem Mark.ext' {a b : Mark} (h : a.nums = b.nums) : a = b := by cases a; cases b; simp_all [Mark.nums]
theorem Ack.ext' {a b : Ack} (h : a.nums = b.nums) : a = b := by cases a; cases b; simp_all [Ack.nums]
theorem Entry.ext' {a b : Entry} (h : a.nums = b.nums) : a = b := by cases a; cases b; simp_all [Entry.nums]
@[reducible] def marks (l : List Mark) : C := .s 3 (l.map markC)
@[reducible] def acks (l : List Ack) : C := .s 4 (l.map ackC)
@[reducible] def entries (l : List Entry) : C := .s 9 (l.map entryC)
def eqN {α : Type} (f : α → List Int) (l m : List α) : Bool := decide (l.map f = m.map f)
theorem eqN_len {α : Type} {f : α → List Int} {l m : List α} (h : (l.length : Int) ≠ m.length) : eqN f l m = false := decide_eq_false fun e => h (by have := congrArg List.length e; simp at this; rw [this])
theorem eqN_at {α : Type} {f : α → List Int} {l m : List α} {k : Nat} (h1 : k < l.length) (h2 : k < m.length) (h : f l[k] ≠ f m[k]) : eqN f l m = false := decide_eq_false fun e => h (by
 have := congrArg (fun x => x[k]?) e
 simpa [h1, h2] using this)
theorem takeN {α : Type} {f : α → List Int} {l m : List α} {k : Nat} (h1 : k < l.length) (h2 : k < m.length) (hp : (l.take k).map f = (m.take k).map f) (h : f l[k] = f m[k]) : (l.take (k + 1)).map f = (m.take (k + 1)).map f := by
 rw [List.take_succ_eq_append_getElem h1, List.take_succ_eq_append_getElem h2, List.map_append, List.map_append, hp]
 simp [h]
theorem takeN_all {α : Type} {f : α → List Int} {l m : List α} {k : Nat} (h1 : ¬ k < l.length) (h2 : l.length = m.length) (hp : (l.take k).map f = (m.take k).map f) : eqN f l m = true := decide_eq_true (by
 rwa [List.take_of_length_le om, List.take_of_length_le om] at hp)
theorem eqN_refl {α : Type} {f : α → List Int} {l : List α} : eqN f l l = true := decide_eq_true rfl
theorem c_SameRow (l m : List Int) : Pure Tryz.prog 62 [one (ints l), one (ints m)] (bR (eqL l m)) := by
 refine pure_intro (N := 26) Tryz.func62 rfl rfl rfl rfl (fun H w => ?_)
 refine ev_lenm (t := 0) rfl (fun hL => ?_)
 refine ev_lenm (t := 1) rfl (fun hM => ?_)
 refine sq (rg (xs rfl rfl (nl (et (sq (sq (rg (xm rfl rfl (xo (q_len_map ttOk rfl rfl) rfl (xm rfl rfl (xo (q_len_map ttOk rfl rfl) rfl (xb ttOk rfl rfl (nl (et (ev_cond rfl (fun h1 => ?_) (fun h1 => ?_))))))))))))))))
 ·have d1 := of_decide_eq_true h1
  refine sq (rg (xs rfl rfl (nl (et (ev_ret (evr_then (ret_pure' ttOk rfl rfl (congrArg bR (?_ : _ = _)))))))))
  rw [eqL_len d1]
 ·have d1 := of_decide_eq_false h1
  have hlen : l.length = m.length := by omega
  refine ev_skip (et (sq (sq (rg (xs rfl rfl (nl (et (ev_blk (ev_loop (fun k : Nat => (⟨[(5, iV k), (0, cV (ints l)), (1, cV (ints m))], [], [], []⟩ : St)) (fun k => k ≤ l.length ∧ l.take k = m.take k) (fun k => l.length - k) 0 [] (⟨by simp, by simp⟩) lei ?_)))))))))
  intro k hp
  obtain ⟨p0, p1⟩ := hp
  show Ev _ _ _ _ (⟨[(5, iV k), (0, cV (ints l)), (1, cV (ints m))], [], [], []⟩ : St)
  refine sq (sq (rg (xm rfl rfl (xm rfl rfl (xo (q_len_map ttOk rfl rfl) rfl (xb ttOk rfl rfl (nl (et (ev_cond rfl (fun h2 => ?_) (fun h2 => ?_))))))))))
  ·have d2 := of_decide_eq_true h2
   refine ev_skip (et (sq (ev_blk (sq (ev_drawq [] mo (rk0 0 rfl (q_move rfl) rfl (rk0 1 rfl (q_move rfl) rfl (rk0 2 rfl (q_ix_map ttOk rfl rfl rfl rfl om) rfl (rk0 3 rfl (q_load ttOk rfl) rfl (rk0 4 rfl (q_move rfl) rfl (rk0 5 rfl (q_move rfl) rfl (rk0 6 rfl (q_ix_map ttOk rfl rfl rfl rfl om) rfl (rk0 7 rfl (q_load ttOk rfl) rfl (rk0 8 rfl (q_bin ttOk rfl) rfl (rdk_endq kr (et (ev_cond rfl (fun h3 => ?_) (fun h3 => ?_))))))))))))))))))
   ·have d3 := of_decide_eq_true h3
    refine sq (rg (xs rfl rfl (nl (et (ev_ret (evr_blk (evr_then (evr_then (evr_blk (evr_then (ret_pure' ttOk rfl rfl (congrArg bR (?_ : _ = _)))))))))))))
    rw [eqL_at (k := k) om om d3]
   ·have d3 := of_decide_eq_false h3
    refine ev_skip (eb (et (rg (xm rfl rfl (xa rfl rfl rfl om rfl (xs rfl rfl (nl (eve_round (k + 1) [] ?hp lei))))))))
    case hp => exact ⟨⟨by omega, take_eq om om p1 (Decidable.not_not.1 d3)⟩, by omega⟩
  ·have d2 := of_decide_eq_false h2
   refine ev_exit (evx_then (evx_then (evx_hit (et (sq (rg (xs rfl rfl (nl (et (ev_ret (ret_pure' ttOk rfl rfl (congrArg bR (?_ : _ = _)))))))))))))
   exact (decide_eq_true (take_all om hlen p1)).symm
theorem c_eqInts (l m : List Int) : Pure Tryz.prog 67 [one (ints l), one (ints m)] (bR (eqL l m)) := by
 refine pure_intro (N := 26) Tryz.func67 rfl rfl rfl rfl (fun H w => ?_)
 refine ev_lenm (t := 0) rfl (fun hL => ?_)
 refine ev_lenm (t := 1) rfl (fun hM => ?_)
 refine sq (rg (xs rfl rfl (nl (et (sq (sq (rg (xm rfl rfl (xo (q_len_map ttOk rfl rfl) rfl (xm rfl rfl (xo (q_len_map ttOk rfl rfl) rfl (xb ttOk rfl rfl (nl (et (ev_cond rfl (fun h1 => ?_) (fun h1 => ?_))))))))))))))))
 ·have d1 := of_decide_eq_true h1
  refine sq (rg (xs rfl rfl (nl (et (ev_ret (evr_then (ret_pure' ttOk rfl rfl (congrArg bR (?_ : _ = _)))))))))
  rw [eqL_len d1]
 ·have d1 := of_decide_eq_false h1
  have hlen : l.length = m.length := by omega
  refine ev_skip (et (sq (sq (rg (xm rfl rfl (xo (q_len_map ttOk rfl rfl) rfl (xm rfl rfl (nl (et (ev_blk (ev_loop (fun k : Nat => (⟨[(13, iV k), (12, iV l.length), (0, cV (ints l)), (1, cV (ints m))], [], [], []⟩ : St)) (fun k => k ≤ l.length ∧ l.take k = m.take k) (fun k => l.length - k) 0 [] (⟨by simp, by simp⟩) lei ?_)))))))))))
  intro k hp
  obtain ⟨p0, p1⟩ := hp
  show Ev _ _ _ _ (⟨[(13, iV k), (12, iV l.length), (0, cV (ints l)), (1, cV (ints m))], [], [], []⟩ : St)
  refine sq (rg (xb ttOk rfl rfl (nl (et (sq (ev_cond rfl (fun h2 => ?_) (fun h2 => ?_)))))))
  ·have d2 := of_decide_eq_true h2
   refine ev_skip (et (sq (ev_blk (sq (rg (xm rfl rfl (xs rfl rfl (nl (et (sq (ev_drawq [] mo (rk0 0 rfl (q_move rfl) rfl (rk0 1 rfl (q_move rfl) rfl (rk0 2 rfl (q_ix_map ttOk rfl rfl rfl rfl om) rfl (rk0 3 rfl (q_load ttOk rfl) rfl (rk0 4 rfl (q_move rfl) rfl (rk0 5 rfl (q_move rfl) rfl (rk0 6 rfl (q_ix_map ttOk rfl rfl rfl rfl om) rfl (rk0 7 rfl (q_load ttOk rfl) rfl (rk0 8 rfl (q_bin ttOk rfl) rfl (rdk_endq kr (et (ev_cond rfl (fun h3 => ?_) (fun h3 => ?_))))))))))))))))))))))))
   ·have d3 := of_decide_eq_true h3
    refine sq (rg (xs rfl rfl (nl (et (ev_ret (evr_blk (evr_then (evr_then (evr_blk (evr_then (ret_pure' ttOk rfl rfl (congrArg bR (?_ : _ = _)))))))))))))
    rw [eqL_at (k := k) om om d3]
   ·have d3 := of_decide_eq_false h3
    refine ev_skip (eb (et (rg (xa rfl rfl rfl om rfl (xm rfl rfl (nl (eve_round (k + 1) [] ?hp lei)))))))
    case hp => exact ⟨⟨by omega, take_eq om om p1 (Decidable.not_not.1 d3)⟩, by omega⟩
  ·have d2 := of_decide_eq_false h2
   refine ev_exit (evx_then (evx_then (evx_hit (et (sq (rg (xs rfl rfl (nl (et (ev_ret (ret_pure' ttOk rfl rfl (congrArg bR (?_ : _ = _)))))))))))))
   exact (decide_eq_true (take_all om hlen p1)).symm
theorem c_eqMarks (l m : List Mark) : Pure Tryz.prog 37 [one (marks l), one (marks m)] (bR (eqN Mark.nums l m)) := by
 refine pure_intro (N := 26) Tryz.func37 rfl rfl rfl rfl (fun H w => ?_)
 refine ev_lenm (t := 0) rfl (fun hL => ?_)
 refine ev_lenm (t := 1) rfl (fun hM => ?_)
 refine sq (rg (xs rfl rfl (nl (et (sq (sq (rg (xm rfl rfl (xo (q_len_map ttOk rfl rfl) rfl (xm rfl rfl (xo (q_len_map ttOk rfl rfl) rfl (xb ttOk rfl rfl (nl (et (ev_cond rfl (fun h1 => ?_) (fun h1 => ?_))))))))))))))))
 ·have d1 := of_decide_eq_true h1
  refine sq (rg (xs rfl rfl (nl (et (ev_ret (evr_then (ret_pure' ttOk rfl rfl (congrArg bR (?_ : _ = _)))))))))
  rw [eqN_len d1]
 ·have d1 := of_decide_eq_false h1
  have hlen : l.length = m.length := by omega
  refine ev_skip (et (sq (sq (rg (xm rfl rfl (xo (q_len_map ttOk rfl rfl) rfl (xm rfl rfl (nl (et (ev_blk (ev_loop (fun k : Nat => (⟨[(13, iV k), (12, iV l.length), (0, cV (marks l)), (1, cV (marks m))], [], [], []⟩ : St)) (fun k => k ≤ l.length ∧ (l.take k).map Mark.nums = (m.take k).map Mark.nums) (fun k => l.length - k) 0 [] (⟨by simp, by simp⟩) lei ?_)))))))))))
  intro k hp
  obtain ⟨p0, p1⟩ := hp
  show Ev _ _ _ _ (⟨[(13, iV k), (12, iV l.length), (0, cV (marks l)), (1, cV (marks m))], [], [], []⟩ : St)
  refine sq (rg (xb ttOk rfl rfl (nl (et (sq (ev_cond rfl (fun h2 => ?_) (fun h2 => ?_)))))))
  ·have d2 := of_decide_eq_true h2
   refine ev_skip (et (sq (ev_blk (sq (rg (xm rfl rfl (xs rfl rfl (nl (et (sq (ev_drawq [] mo (rk0 0 rfl (q_move rfl) rfl (rk0 1 rfl (q_move rfl) rfl (rk0 2 rfl (q_ix_map ttOk rfl rfl rfl rfl om) rfl (rk0 3 rfl (q_load ttOk rfl) rfl (rk0 4 rfl (q_move rfl) rfl (rk0 5 rfl (q_move rfl) rfl (rk0 6 rfl (q_ix_map ttOk rfl rfl rfl rfl om) rfl (rk0 7 rfl (q_load ttOk rfl) rfl ?_)))))))))))))))))))
   first | refine rk0 8 rfl (q_eqS (n := 3) kr rfl rfl rfl rfl rfl rfl rfl) rfl ?_ | refine rk0 8 rfl (q_bin ttOk rfl) rfl ?_
   refine rdk_endq kr (et (ev_cond rfl (fun h3 => ?_) (fun h3 => ?_)))
   ·have d3 := of_decide_eq_true h3
    refine sq (rg (xs rfl rfl (nl (et (ev_ret (evr_blk (evr_then (evr_then (evr_blk (evr_then (ret_pure' ttOk rfl rfl (congrArg bR (?_ : _ = _)))))))))))))
    rw [eqN_at (k := k) om om d3]
   ·have d3 := of_decide_eq_false h3
    refine ev_skip (eb (et (rg (xa rfl rfl rfl om rfl (xm rfl rfl (nl (eve_round (k + 1) [] ?hp lei)))))))
    case hp => exact ⟨⟨by omega, takeN om om p1 (Decidable.not_not.1 d3)⟩, by omega⟩
  ·have d2 := of_decide_eq_false h2
   refine ev_exit (evx_then (evx_then (evx_hit (et (sq (rg (xs rfl rfl (nl (et (ev_ret (ret_pure' ttOk rfl rfl (congrArg bR (?_ : _ = _)))))))))))))
   exact (takeN_all om hlen p1).symm
theorem c_SameRow' (l m : List Int) : Pure Tryz.prog 35 [one (ints l), one (ints m)] (bR (eqL l m)) := by
 refine pure_intro (N := 8) Tryz.func35 rfl rfl rfl rfl (fun H w => ?_)
 refine sq (rg (xs rfl rfl (nl (et (sq (rg (xm rfl rfl (xm rfl rfl (evl_call (nm := 7) (cf rfl) (c_eqInts _ _) (rs_of rfl) rfl rfl rfl (xs rfl rfl (nl (et (ev_ret (ret_pure' ttOk rfl rfl ?_))))))))))))))
 rfl
theorem c_SameSeen' (l m : List Mark) : Pure Tryz.prog 13 [one (marks l), one (marks m)] (bR (eqN Mark.nums l m)) := by
 refine pure_intro (N := 8) Tryz.func13 rfl rfl rfl rfl (fun H w => ?_)
 refine sq (rg (xs rfl rfl (nl (et (sq (rg (xm rfl rfl (xm rfl rfl (evl_call (nm := 7) (cf rfl) (c_eqMarks _ _) (rs_of rfl) rfl rfl rfl (xs rfl rfl (nl (et (ev_ret (ret_pure' ttOk rfl rfl ?_))))))))))))))
 rfl
structure Disk where
 kept : List (List Int)
 wait : List (Int × List Int)
structure Two where
 a : Disk
 b : Disk
@[reducible] def rows (l : List (List Int)) : C := .s 1 (l.map fun r => [ints r])
@[reducible] def writes (l : List (Int × List Int)) : C := .s 2 (l.map fun x => [iC x.1, ints x.2])
@[reducible] def diskC (d : Disk) : List C := [rows d.kept, writes d.wait]
@[reducible] def twoC (t : Two) : List C := [rows t.a.kept, writes t.a.wait, rows t.b.kept, writes t.b.wait]
@[reducible] def pbV (b o : Nat) : AV := .p false [.pb b o]
def hasAt (d : Disk) (x : Int) : Bool := inB x 0 (d.kept.length - 1)
def writeOk (d : Disk) (x : Int × List Int) : Bool := hasAt d x.1 && rowOk x.2
def diskOk (d : Disk) : Bool := decide (1 ≤ d.kept.length) && (decide (d.kept.length ≤ 40) && (decide (d.wait.length ≤ 60) && (d.kept.all rowOk && d.wait.all (writeOk d))))
def twoOk (t : Two) : Bool := diskOk t.a && (diskOk t.b && decide (t.a.kept.length = t.b.kept.length))
def keptOk (t : Two) : Bool := twoOk t && decide (t.a.kept.length = 22)
theorem writeOk_no1 {d : Disk} {x : Int × List Int} (h : hasAt d x.1 = false) : writeOk d x = false := by simp [writeOk, h]
theorem writeOk_no2 {d : Disk} {x : Int × List Int} (h : rowOk x.2 = false) : writeOk d x = false := by simp [writeOk, h]
theorem writeOk_yes {d : Disk} {x : Int × List Int} (h : hasAt d x.1 = true) (h2 : rowOk x.2 = true) : writeOk d x = true := by simp [writeOk, h, h2]
theorem c_l3Has (d : Disk) (x : Int) : Pure Tryz.prog 59 [many (diskC d), one (iC x)] (bR (hasAt d x)) := by
 refine pure_intro (N := 11) Tryz.func59 rfl rfl rfl rfl (fun H w => ?_)
 refine ev_lena 0 (t := 0) rfl rfl (fun hL => ?_)
 refine sq (rg (evl_e (e_box rfl rfl rfl rfl) (xs rfl rfl (nl (et (sq (rg (xm rfl rfl (xf ttOk rfl rfl (xl ttOk rfl rfl (xo (q_len_map ttOk rfl rfl) rfl (xa rfl rfl rfl om rfl (evl_call (nm := 10) (cf rfl) (c_l1In _ _ _) (rs_of rfl) rfl rfl rfl (xs rfl rfl (nl (et (ev_ret (ret_pure' ttOk rfl rfl ?_))))))))))))))))))
 rfl
theorem c_sectorOk (d : Disk) (x : Int) : Pure Tryz.prog 77 [many (diskC d), one (iC x)] (bR (hasAt d x)) := by
 refine pure_intro (N := 11) Tryz.func77 rfl rfl rfl rfl (fun H w => ?_)
 refine ev_lena 0 (t := 0) rfl rfl (fun hL => ?_)
 refine sq (rg (evl_e (e_box rfl rfl rfl rfl) (xs rfl rfl (nl (et (sq (rg (xm rfl rfl (xf ttOk rfl rfl (xl ttOk rfl rfl (xo (q_len_map ttOk rfl rfl) rfl (xa rfl rfl rfl om rfl (evl_call (nm := 10) (cf rfl) (c_between _ _ _) (rs_of rfl) rfl rfl rfl (xs rfl rfl (nl (et (ev_ret (ret_pure' ttOk rfl rfl ?_))))))))))))))))))
 rfl
theorem c_DiskOk (d : Disk) : Pure Tryz.prog 88 [many (diskC d)] (bR (diskOk d)) := by
 refine pure_intro (N := 61) Tryz.func88 rfl rfl rfl rfl (fun H w => ?_)
 refine sq (rg (evl_e (e_box rfl rfl rfl rfl) (xs rfl rfl (nl (et (sq (sq (rg (xf ttOk rfl rfl (xl ttOk rfl rfl (xo (q_len_map ttOk rfl rfl) rfl (xb ttOk rfl rfl (xm rfl rfl (evl_part rfl rfl (fun h1 => ?_) (fun h1 => ?_)))))))))))))))
 ·have d1 := of_decide_eq_true h1
  refine gn h1 rfl rfl rfl (gn h1 rfl rfl rfl (gn h1 rfl rfl rfl (gn h1 rfl rfl rfl (xo (q_pick_t rfl h1 rfl) rfl (xm rfl rfl (gn rfl rfl rfl rfl (gn rfl rfl rfl rfl (gn rfl rfl rfl rfl (gn rfl rfl rfl rfl (xo (q_pick_t rfl rfl rfl) rfl (nl (et (ev_cond_kt rfl rfl (sq (rg (xs rfl rfl (nl (et (ev_ret (evr_then (ret_pure' ttOk rfl rfl (congrArg bR (?_ : _ = _)))))))))))))))))))))))
  have : ¬ 1 ≤ d.kept.length := by omega
  simp [diskOk, this]
 ·have d1 := of_decide_eq_false h1
  refine go h1 rfl rfl (q_fieldAddr ttOk rfl) rfl (go h1 rfl rfl (q_load ttOk rfl) rfl (go h1 rfl rfl (q_len_map ttOk rfl rfl) rfl (go h1 rfl rfl (q_bin ttOk rfl) rfl (xo (q_pick_f rfl h1 rfl) rfl (xm rfl rfl (evl_part rfl rfl (fun h2 => ?_) (fun h2 => ?_)))))))
  ·have d2 := of_decide_eq_true h2
   refine gn h2 rfl rfl rfl (gn h2 rfl rfl rfl (gn h2 rfl rfl rfl (gn h2 rfl rfl rfl (xo (q_pick_t rfl h2 rfl) rfl (nl (et (ev_cond_kt rfl rfl (sq (rg (xs rfl rfl (nl (et (ev_ret (evr_then (ret_pure' ttOk rfl rfl (congrArg bR (?_ : _ = _)))))))))))))))))
   have : ¬ d.kept.length ≤ 40 := by omega
   simp [diskOk, this]
  ·have d2 := of_decide_eq_false h2
   refine go h2 rfl rfl (q_fieldAddr ttOk rfl) rfl (go h2 rfl rfl (q_load ttOk rfl) rfl (go h2 rfl rfl (q_len_map ttOk rfl rfl) rfl (go h2 rfl rfl (q_bin ttOk rfl) rfl (xo (q_pick_f rfl h2 rfl) rfl (nl (et (ev_cond rfl (fun h3 => ?_) (fun h3 => ?_))))))))
   ·have d3 := of_decide_eq_true h3
    refine sq (rg (xs rfl rfl (nl (et (ev_ret (evr_then (ret_pure' ttOk rfl rfl (congrArg bR (?_ : _ = _)))))))))
    have : ¬ d.wait.length ≤ 60 := by omega
    simp [diskOk, this]
   ·have d3 := of_decide_eq_false h3
    refine ev_skip (et (sq (sq (rg (xs rfl rfl (nl (et (ev_blk (ev_loop (fun k : Nat => (⟨[(3, iV k), (1, pbV 1 0)], [(1, 30, [.c (rows d.kept), .c (writes d.wait)])], [], []⟩ : St)) (fun k => k ≤ d.kept.length ∧ ∀ x ∈ d.kept.take k, rowOk x = true) (fun k => d.kept.length - k) 0 [] (⟨by simp, by simp⟩) lei ?_)))))))))
    intro k hp
    obtain ⟨p0, p1⟩ := hp
    show Ev _ _ _ _ (⟨[(3, iV k), (1, pbV 1 0)], [(1, 30, [.c (rows d.kept), .c (writes d.wait)])], [], []⟩ : St)
    refine sq (sq (rg (xm rfl rfl (xf ttOk rfl rfl (xl ttOk rfl rfl (xo (q_len_map ttOk rfl rfl) rfl (xb ttOk rfl rfl (nl (et (ev_cond rfl (fun h4 => ?_) (fun h4 => ?_)))))))))))
    ·have d4 := of_decide_eq_true h4
     refine ev_skip (et (sq (ev_blk (sq (rg (xf ttOk rfl rfl (xl ttOk rfl rfl (xm rfl rfl (xo (q_ix_map ttOk rfl rfl rfl rfl om) rfl (xl ttOk rfl rfl (evl_call (nm := 33) (cf rfl) (c_RowOk _) (rs_of rfl) rfl rfl rfl (xo (q_not rfl) rfl (nl (et (ev_cond_n rfl (fun h5 => ?_) (fun h5 => ?_))))))))))))))))
     ·refine sq (rg (xs rfl rfl (nl (et (ev_ret (evr_blk (evr_then (evr_then (evr_blk (evr_then (ret_pure' ttOk rfl rfl (congrArg bR (?_ : _ = _)))))))))))))
      simp [diskOk, all_not (f := rowOk) (k := k) om h5]
     ·refine ev_skip (eb (et (rg (xm rfl rfl (xa rfl rfl rfl om rfl (xs rfl rfl (nl (eve_round (k + 1) [] ?hp lei))))))))
      case hp => exact ⟨⟨by omega, all_take om p1 h5⟩, by omega⟩
    ·have d4 := of_decide_eq_false h4
     refine ev_exit (evx_then (evx_then (evx_hit (et (sq (sq (rg (xs rfl rfl (nl (et (ev_blk (ev_loop (fun j : Nat => (⟨[(4, iV j), (1, pbV 1 0)], [(1, 30, [.c (rows d.kept), .c (writes d.wait)])], [], []⟩ : St)) (fun j => j ≤ d.wait.length ∧ ∀ x ∈ d.wait.take j, writeOk d x = true) (fun j => d.wait.length - j) 0 [] (⟨by simp, by simp⟩) lei ?_))))))))))))
     intro j hp
     obtain ⟨q0, q1⟩ := hp
     show Ev _ _ _ _ (⟨[(4, iV j), (1, pbV 1 0)], [(1, 30, [.c (rows d.kept), .c (writes d.wait)])], [], []⟩ : St)
     refine sq (sq (rg (xm rfl rfl (xf ttOk rfl rfl (xl ttOk rfl rfl (xo (q_len_map ttOk rfl rfl) rfl (xb ttOk rfl rfl (nl (et (ev_cond rfl (fun h6 => ?_) (fun h6 => ?_)))))))))))
     ·have d6 := of_decide_eq_true h6
      refine ev_skip (et (sq (ev_blk (sq (ev_drawq [] mo (rk0 0 rfl (q_load ttOk rfl) rfl (rk0 1 rfl (q_fieldAddr ttOk rfl) rfl (rk0 2 rfl (q_load ttOk rfl) rfl (rk0 3 rfl (q_move rfl) rfl (rk0 4 rfl (q_ix_map ttOk rfl rfl rfl rfl om) rfl (rk0 5 rfl (q_fieldAddr ttOk rfl) rfl (rk0 6 rfl (q_load ttOk rfl) rfl (rdk_one 7 kr (rdo_call (nm := 49) rfl trivial (cf rfl) (c_l3Has _ _) (rs_of rfl) rfl rfl rfl (rk0 8 rfl (q_not rfl) rfl (rk0 9 rfl (q_move rfl) rfl (rdk_partn (t := 51) rfl (fun h7 => ?_) (fun h7 => ?_))))))))))))))))))
      ·refine rdk_skip 10 rfl kr ⟨_, rfl, .inl ⟨_, rfl, (nt h7)⟩⟩ rfl (rdk_skip 11 rfl kr ⟨_, rfl, .inl ⟨_, rfl, (nt h7)⟩⟩ rfl (rdk_skip 12 rfl kr ⟨_, rfl, .inl ⟨_, rfl, (nt h7)⟩⟩ rfl (rdk_skip 13 rfl kr ⟨_, rfl, .inl ⟨_, rfl, (nt h7)⟩⟩ rfl (rdk_skip 14 rfl kr ⟨_, rfl, .inl ⟨_, rfl, (nt h7)⟩⟩ rfl (rdk_skip 15 rfl kr ⟨_, rfl, .inl ⟨_, rfl, (nt h7)⟩⟩ rfl (rdk_skip 16 rfl kr ⟨_, rfl, .inl ⟨_, rfl, (nt h7)⟩⟩ rfl (rdk_skip 17 rfl kr ⟨_, rfl, .inl ⟨_, rfl, (nt h7)⟩⟩ rfl (rk0 18 rfl (q_pick_t rfl (nt h7) rfl) rfl (rdk_endq kr (et (ev_cond_kt rfl rfl (sq (rg (xs rfl rfl (nl (et (ev_ret (evr_blk (evr_then (evr_then (evr_blk (evr_then (ret_pure' ttOk rfl rfl (congrArg bR (?_ : _ = _)))))))))))))))))))))))))
       simp [diskOk, all_not (f := writeOk d) (k := j) om (writeOk_no1 h7)]
      ·refine rdk_take 10 rfl kr ⟨_, _, rfl, rfl, (nf h7)⟩ (q_fieldAddr ttOk rfl) rfl (rdk_take 11 rfl kr ⟨_, _, rfl, rfl, (nf h7)⟩ (q_load ttOk rfl) rfl (rdk_take 12 rfl kr ⟨_, _, rfl, rfl, (nf h7)⟩ (q_move rfl) rfl (rdk_take 13 rfl kr ⟨_, _, rfl, rfl, (nf h7)⟩ (q_ix_map ttOk rfl rfl rfl rfl om) rfl (rdk_take 14 rfl kr ⟨_, _, rfl, rfl, (nf h7)⟩ (q_fieldAddr ttOk rfl) rfl (rdk_take 15 rfl kr ⟨_, _, rfl, rfl, (nf h7)⟩ (q_load ttOk rfl) rfl (rdk_one 16 kr (rdo_call (nm := 58) rfl ⟨_, _, rfl, rfl, (nf h7)⟩ (cf rfl) (c_RowOk _) (rs_of rfl) rfl rfl rfl (rdk_take 17 rfl kr ⟨_, _, rfl, rfl, (nf h7)⟩ (q_not rfl) rfl (rk0 18 rfl (q_pick_f rfl (nf h7) rfl) rfl (rdk_endq kr (et (ev_cond_n rfl (fun h8 => ?_) (fun h8 => ?_)))))))))))))
       ·refine sq (rg (xs rfl rfl (nl (et (ev_ret (evr_blk (evr_then (evr_then (evr_blk (evr_then (ret_pure' ttOk rfl rfl (congrArg bR (?_ : _ = _)))))))))))))
        simp [diskOk, all_not (f := writeOk d) (k := j) om (writeOk_no2 h8)]
       ·refine ev_skip (eb (et (rg (xm rfl rfl (xa rfl rfl rfl om rfl (xs rfl rfl (nl (eve_round (j + 1) [] ?hp lei))))))))
        case hp => exact ⟨⟨by omega, all_take om q1 (writeOk_yes h7 h8)⟩, by omega⟩
     ·have d6 := of_decide_eq_false h6
      refine ev_exit (evx_then (evx_then (evx_hit (et (sq (rg (xs rfl rfl (nl (et (ev_ret (ret_pure' ttOk rfl rfl (congrArg bR (?_ : _ = _)))))))))))))
      simp [diskOk, all_done (f := rowOk) (k := k) om p1, all_done (f := writeOk d) (k := j) om q1]; omega
theorem c_DiskOk' (d : Disk) : Pure Tryz.prog 64 [many (diskC d)] (bR (diskOk d)) := by
 refine pure_intro (N := 53) Tryz.func64 rfl rfl rfl rfl (fun H w => ?_)
 refine sq (rg (evl_e (e_box rfl rfl rfl rfl) (xs rfl rfl (nl (et (sq (sq (rg (xf ttOk rfl rfl (xl ttOk rfl rfl (xo (q_len_map ttOk rfl rfl) rfl (xb ttOk rfl rfl (xm rfl rfl (evl_part rfl rfl (fun h1 => ?_) (fun h1 => ?_)))))))))))))))
 ·have d1 := of_decide_eq_true h1
  refine gn h1 rfl rfl rfl (gn h1 rfl rfl rfl (gn h1 rfl rfl rfl (gn h1 rfl rfl rfl (xo (q_pick_t rfl h1 rfl) rfl (xm rfl rfl (gn rfl rfl rfl rfl (gn rfl rfl rfl rfl (gn rfl rfl rfl rfl (gn rfl rfl rfl rfl (xo (q_pick_t rfl rfl rfl) rfl (nl (et (ev_cond_kt rfl rfl (sq (rg (xs rfl rfl (nl (et (ev_ret (evr_then (ret_pure' ttOk rfl rfl (congrArg bR (?_ : _ = _)))))))))))))))))))))))
  have : ¬ 1 ≤ d.kept.length := by omega
  simp [diskOk, this]
 ·have d1 := of_decide_eq_false h1
  refine go h1 rfl rfl (q_fieldAddr ttOk rfl) rfl (go h1 rfl rfl (q_load ttOk rfl) rfl (go h1 rfl rfl (q_len_map ttOk rfl rfl) rfl (go h1 rfl rfl (q_bin ttOk rfl) rfl (xo (q_pick_f rfl h1 rfl) rfl (xm rfl rfl (evl_part rfl rfl (fun h2 => ?_) (fun h2 => ?_)))))))
  ·have d2 := of_decide_eq_true h2
   refine gn h2 rfl rfl rfl (gn h2 rfl rfl rfl (gn h2 rfl rfl rfl (gn h2 rfl rfl rfl (xo (q_pick_t rfl h2 rfl) rfl (nl (et (ev_cond_kt rfl rfl (sq (rg (xs rfl rfl (nl (et (ev_ret (evr_then (ret_pure' ttOk rfl rfl (congrArg bR (?_ : _ = _)))))))))))))))))
   have : ¬ d.kept.length ≤ 40 := by omega
   simp [diskOk, this]
  ·have d2 := of_decide_eq_false h2
   refine go h2 rfl rfl (q_fieldAddr ttOk rfl) rfl (go h2 rfl rfl (q_load ttOk rfl) rfl (go h2 rfl rfl (q_len_map ttOk rfl rfl) rfl (go h2 rfl rfl (q_bin ttOk rfl) rfl (xo (q_pick_f rfl h2 rfl) rfl (nl (et (ev_cond rfl (fun h3 => ?_) (fun h3 => ?_))))))))
   ·have d3 := of_decide_eq_true h3
    refine sq (rg (xs rfl rfl (nl (et (ev_ret (evr_then (ret_pure' ttOk rfl rfl (congrArg bR (?_ : _ = _)))))))))
    have : ¬ d.wait.length ≤ 60 := by omega
    simp [diskOk, this]
   ·have d3 := of_decide_eq_false h3
    refine ev_skip (et (sq (sq (rg (xf ttOk rfl rfl (xl ttOk rfl rfl (xo (q_len_map ttOk rfl rfl) rfl (xm rfl rfl (nl (et (ev_blk (ev_loop (fun k : Nat => (⟨[(26, iV k), (24, cV (rows d.kept)), (25, iV d.kept.length), (1, pbV 1 0)], [(1, 30, [.c (rows d.kept), .c (writes d.wait)])], [], []⟩ : St)) (fun k => k ≤ d.kept.length ∧ ∀ x ∈ d.kept.take k, rowOk x = true) (fun k => d.kept.length - k) 0 [] (⟨by simp, by simp⟩) lei ?_))))))))))))
    intro k hp
    obtain ⟨p0, p1⟩ := hp
    show Ev _ _ _ _ (⟨[(26, iV k), (24, cV (rows d.kept)), (25, iV d.kept.length), (1, pbV 1 0)], [(1, 30, [.c (rows d.kept), .c (writes d.wait)])], [], []⟩ : St)
    refine sq (rg (xb ttOk rfl rfl (nl (et (sq (ev_cond rfl (fun h4 => ?_) (fun h4 => ?_)))))))
    ·have d4 := of_decide_eq_true h4
     refine ev_skip (et (sq (ev_blk (sq (rg (xo (q_ix_map ttOk rfl rfl rfl rfl om) rfl (xl ttOk rfl rfl (xs rfl rfl (nl (et (sq (rg (xm rfl rfl (evl_call (nm := 31) (cf rfl) (c_RowOk' _) (rs_of rfl) rfl rfl rfl (xo (q_not rfl) rfl (nl (et (ev_cond_n rfl (fun h5 => ?_) (fun h5 => ?_)))))))))))))))))))
     ·refine sq (rg (xs rfl rfl (nl (et (ev_ret (evr_blk (evr_then (evr_then (evr_blk (evr_then (ret_pure' ttOk rfl rfl (congrArg bR (?_ : _ = _)))))))))))))
      simp [diskOk, all_not (f := rowOk) (k := k) om h5]
     ·refine ev_skip (eb (et (rg (xa rfl rfl rfl om rfl (xm rfl rfl (nl (eve_round (k + 1) [] ?hp lei)))))))
      case hp => exact ⟨⟨by omega, all_take om p1 h5⟩, by omega⟩
    ·have d4 := of_decide_eq_false h4
     refine ev_exit (evx_then (evx_then (evx_hit (et (sq (sq (rg (xf ttOk rfl rfl (xl ttOk rfl rfl (xo (q_len_map ttOk rfl rfl) rfl (xm rfl rfl (nl (et (ev_blk (ev_loop (fun j : Nat => (⟨[(37, iV j), (35, cV (writes d.wait)), (36, iV d.wait.length), (1, pbV 1 0)], [(1, 30, [.c (rows d.kept), .c (writes d.wait)])], [], []⟩ : St)) (fun j => j ≤ d.wait.length ∧ ∀ x ∈ d.wait.take j, writeOk d x = true) (fun j => d.wait.length - j) 0 [] (⟨by simp, by simp⟩) lei ?_)))))))))))))))
     intro j hp
     obtain ⟨q0, q1⟩ := hp
     show Ev _ _ _ _ (⟨[(37, iV j), (35, cV (writes d.wait)), (36, iV d.wait.length), (1, pbV 1 0)], [(1, 30, [.c (rows d.kept), .c (writes d.wait)])], [], []⟩ : St)
     refine sq (rg (xb ttOk rfl rfl (nl (et (sq (ev_cond rfl (fun h6 => ?_) (fun h6 => ?_)))))))
     ·have d6 := of_decide_eq_true h6
      refine ev_skip (et (sq (ev_blk (sq (rg (xo (q_ix_map ttOk rfl rfl rfl rfl om) rfl (xl ttOk rfl rfl (evl_e (e_alloc ttOk rfl rfl rfl rfl) (xst ttOk rfl rfl (nl (et (sq (rg (xl ttOk rfl rfl (xf ttOk rfl rfl (xl ttOk rfl rfl (evl_call (nm := 44) (cf rfl) (c_sectorOk _ _) (rs_of rfl) rfl rfl rfl (xo (q_not rfl) rfl (xm rfl rfl (evl_partn rfl rfl (fun h7 => ?_) (fun h7 => ?_)))))))))))))))))))))
      ·refine gn (nt h7) rfl rfl rfl (gn (nt h7) rfl rfl rfl (gn (nt h7) rfl rfl rfl (gn (nt h7) rfl rfl rfl (xo (q_pick_t rfl (nt h7) rfl) rfl (nl (et (ev_cond_kt rfl rfl (sq (rg (xs rfl rfl (nl (et (ev_ret (evr_blk (evr_then (evr_then (evr_blk (evr_then (ret_pure' ttOk rfl rfl (congrArg bR (?_ : _ = _)))))))))))))))))))))
       simp [diskOk, all_not (f := writeOk d) (k := j) om (writeOk_no1 h7)]
      ·refine go (nf h7) rfl rfl (q_fieldAddr ttOk rfl) rfl (go (nf h7) rfl rfl (q_load ttOk rfl) rfl (evl_callg rfl rfl (nf h7) (nm := 49) (cf rfl) (c_RowOk' _) (rs_of rfl) rfl rfl rfl (go (nf h7) rfl rfl (q_not rfl) rfl (xo (q_pick_f rfl (nf h7) rfl) rfl (nl (et (ev_cond_n rfl (fun h8 => ?_) (fun h8 => ?_))))))))
       ·refine sq (rg (xs rfl rfl (nl (et (ev_ret (evr_blk (evr_then (evr_then (evr_blk (evr_then (ret_pure' ttOk rfl rfl (congrArg bR (?_ : _ = _)))))))))))))
        simp [diskOk, all_not (f := writeOk d) (k := j) om (writeOk_no2 h8)]
       ·refine ev_skip (eb (et (rg (xa rfl rfl rfl om rfl (xm rfl rfl (nl (eve_round (j + 1) [] ?hp lei)))))))
        case hp => exact ⟨⟨by omega, all_take om q1 (writeOk_yes h7 h8)⟩, by omega⟩
     ·have d6 := of_decide_eq_false h6
      refine ev_exit (evx_then (evx_then (evx_hit (et (sq (rg (xs rfl rfl (nl (et (ev_ret (ret_pure' ttOk rfl rfl (congrArg bR (?_ : _ = _)))))))))))))
      simp [diskOk, all_done (f := rowOk) (k := k) om p1, all_done (f := writeOk d) (k := j) om q1]; omega
end Go.Proofs.YtahkjonokeifmaaGreat
