/- Walks of functions of the program, printed by a program of the prover. -/
import Derived.Test.YtpbhcdgdabfhfaaGreatF1
namespace Go.Proofs.YtpbhcdgdabfhfaaGreat
open Go.ChangeShapes Go.WideShapes Go.ChangeAt Go.RowKit
set_option linter.unusedVariables false
set_option linter.unusedSimpArgs false
set_option maxHeartbeats 1000000
set_option maxRecDepth 100000
attribute [local irreducible] EvL Ev EvE Quiet Eff Pure RDk RDb RDo
def sumStep (s x : Int) : Int := (131 * s + x + 1) % 999999937
def sumF (l : List Int) : Int := l.foldl sumStep 7
def NumsOk (l : List Int) : Prop := ∀ x ∈ l, numOk x = true
theorem numOk_iff {x : Int} : numOk x = true ↔ 0 ≤ x ∧ x ≤ 1000000000 := by simp [numOk, inB]
theorem rowOk_nums {l : List Int} (h : rowOk l = true) : l.length ≤ 48 ∧ NumsOk l := by
  simp only [rowOk, Bool.and_eq_true, decide_eq_true_eq, List.all_eq_true] at h
  exact h
theorem num_at {l : List Int} {k : Nat} (h : NumsOk l) (hk : k < l.length) : 0 ≤ l[k] ∧ l[k] ≤ 1000000000 := numOk_iff.1 (h _ (List.getElem_mem hk))
theorem sum_next {l : List Int} {k : Nat} {s : Int} (hk : k < l.length) (h : s = sumF (l.take k)) : (131 * s + l[k] + 1) % 999999937 = sumF (l.take (k + 1)) := by
  rw [List.take_succ_eq_append_getElem hk, sumF, List.foldl_append, h]; rfl
theorem sum_rng (l : List Int) : 0 ≤ sumF l ∧ sumF l < 999999937 := by
  have key : ∀ (l : List Int) (s : Int), 0 ≤ s ∧ s < 999999937 → 0 ≤ l.foldl sumStep s ∧ l.foldl sumStep s < 999999937 := by
    intro l
    induction l with
    | nil => intro s h; exact h
    | cons x l ih => intro s h; exact ih _ ⟨Int.emod_nonneg _ (by omega), Int.emod_lt_of_pos _ (by omega)⟩
  exact key l 7 (by omega)
theorem sum_all {l : List Int} {k : Nat} {s : Int} (hk : ¬ k < l.length) (h : s = sumF (l.take k)) : s = sumF l := by rw [h, List.take_of_length_le (by omega)]
def canSum (l : List Int) : Bool := rowOk l && decide (l.length < 48)
def withSumF (l : List Int) : List Int := if canSum l then l ++ [sumF l] else []
def sumOfF (l : List Int) : Int := if rowOk l then sumF l else -1
def intsRows (l : List Int) : List (List C) := l.map fun x => [iC x]
theorem flat_ints (l : List Int) : Flat (l.map fun x => [iC x]) := by
  intro cs hcs c hc
  obtain ⟨x, _, rfl⟩ := List.mem_map.1 hcs
  rw [List.mem_singleton.1 hc]; exact ⟨_, rfl⟩
theorem ints_app (l m : List Int) : (l.map fun x => [iC x]) ++ (m.map fun x => [iC x]) = (l ++ m).map fun x => [iC x] := by simp
theorem c_checksum (l : List Int) (h : NumsOk l) : Pure Tryz.prog 256 [one (ints l)] (iR (sumF l)) := by
  refine pure_intro (N := 20) Tryz.func256 rfl rfl rfl rfl (fun H w => ?_)
  refine ev_lenm (t := 0) rfl (fun hL => ?_)
  (repeat refine sq ?_)
  refine rg ?_
  refine xs rfl rfl ?_
  refine nl ?_
  (repeat first | refine et ?_ | refine eb ?_)
  (repeat refine sq ?_)
  refine rg ?_
  refine xs rfl rfl ?_
  refine nl ?_
  (repeat first | refine et ?_ | refine eb ?_)
  (repeat refine sq ?_)
  refine rg ?_
  refine xm rfl rfl ?_
  refine xo (q_len_map ttOk rfl rfl) rfl ?_
  refine xm rfl rfl ?_
  refine nl ?_
  (repeat first | refine et ?_ | refine eb ?_)
  (repeat refine sq ?_)
  refine ev_blk ?_
  (repeat refine sq ?_)
  refine ev_loop (fun i : Nat × Int => (⟨[(8, iV i.1), (6, cV (ints l)), (7, iV l.length), (3, iV i.2)], [], [], []⟩ : St)) (fun i => i.1 ≤ l.length ∧ i.2 = sumF (l.take i.1) ∧ 0 ≤ i.2 ∧ i.2 < 999999937) (fun i => l.length - i.1) (0, 7) [] (⟨by simp, rfl, by omega, by omega⟩) ⟨by (repeat first | exact trivial | refine ⟨rfl, ?_⟩), by (repeat first | exact trivial | refine ⟨rfl, ?_⟩), by (repeat first | exact trivial | refine ⟨⟨_, rfl, rfl⟩, ?_⟩), by (repeat first | exact trivial | refine ⟨⟨_, rfl, rfl⟩, ?_⟩), rfl⟩ ?_
  intro i hp
  obtain ⟨k, s⟩ := i
  have hp : k ≤ l.length ∧ s = sumF (l.take k) ∧ 0 ≤ s ∧ s < 999999937 := hp
  obtain ⟨p0, p1, p2, p3⟩ := hp
  show Ev _ _ _ _ (⟨[(8, iV k), (6, cV (ints l)), (7, iV l.length), (3, iV s)], [], [], []⟩ : St)
  (repeat refine sq ?_)
  refine rg ?_
  refine xb ttOk rfl rfl ?_
  refine nl ?_
  (repeat first | refine et ?_ | refine eb ?_)
  (repeat refine sq ?_)
  refine ev_cond rfl (fun h1 => ?_) (fun h1 => ?_)
  · have d1 := of_decide_eq_true h1
    (repeat refine sq ?_)
    refine ev_skip ?_
    (repeat first | refine et ?_ | refine eb ?_)
    (repeat refine sq ?_)
    refine ev_blk ?_
    (repeat refine sq ?_)
    have hn := num_at h (k := k) (by omega)
    refine rg ?_
    refine xo (q_ix_map ttOk rfl rfl rfl rfl (by omega)) rfl ?_
    refine xl ttOk rfl rfl ?_
    refine xs rfl rfl ?_
    refine nl ?_
    (repeat first | refine et ?_ | refine eb ?_)
    (repeat refine sq ?_)
    refine rg ?_
    refine xm rfl rfl ?_
    refine xa rfl rfl rfl (by omega) rfl ?_
    refine xm rfl rfl ?_
    refine xa rfl rfl rfl (by omega) rfl ?_
    refine xa rfl rfl rfl (by omega) rfl ?_
    first | refine xo (q_rem_pos rfl rfl (by omega)) rfl ?_ | refine xo (q_rem rfl rfl (by omega)) rfl ?_
    refine xs rfl rfl ?_
    refine nl ?_
    (repeat first | refine et ?_ | refine eb ?_)
    (repeat refine sq ?_)
    refine rg ?_
    refine xa rfl rfl rfl (by omega) rfl ?_
    refine xm rfl rfl ?_
    refine nl ?_
    (repeat first | refine et ?_ | refine eb ?_)
    (repeat first | refine et ?_ | refine eb ?_)
    refine eve_round (k + 1, _) [] ?hp ⟨by (repeat first | exact trivial | refine ⟨rfl, ?_⟩), by (repeat first | exact trivial | refine ⟨rfl, ?_⟩), by (repeat first | exact trivial | refine ⟨⟨_, rfl, rfl⟩, ?_⟩), by (repeat first | exact trivial | refine ⟨⟨_, rfl, rfl⟩, ?_⟩), rfl⟩
    case hp => exact ⟨⟨by omega, sum_next (by omega) p1, Int.emod_nonneg _ (by omega), Int.emod_lt_of_pos _ (by omega)⟩, by omega⟩
  · have d1 := of_decide_eq_false h1
    (repeat refine sq ?_)
    refine ev_exit ?_
    (repeat first | refine evx_then ?_ | refine evx_hit ?_ | refine evx_miss rfl ?_)
    (repeat first | refine et ?_ | refine eb ?_)
    (repeat refine sq ?_)
    refine rg ?_
    refine xm rfl rfl ?_
    refine xs rfl rfl ?_
    refine nl ?_
    (repeat first | refine et ?_ | refine eb ?_)
    (repeat refine sq ?_)
    refine ev_ret ?_
    (repeat first | refine evr_then ?_ | refine evr_blk ?_)
    refine ret_pure' ttOk rfl rfl ?_
    rw [sum_all (by omega) p1]
theorem c_copyRow (l : List Int) (hl : l.length ≤ 1000000) : Pure Tryz.prog 255 [one (ints l)] [one' (intsR 2 l)] := by
  refine pure_intro (N := 6) Tryz.func255 rfl rfl rfl rfl (fun H w => ?_)
  (repeat refine sq ?_)
  refine rg ?_
  refine xs rfl rfl ?_
  refine nl ?_
  (repeat first | refine et ?_ | refine eb ?_)
  (repeat refine sq ?_)
  refine rg ?_
  refine evl_e (e_lit ttOk rfl rfl rfl) ?_
  refine xm rfl rfl ?_
  refine evl_e (e_app_c ttOk rfl rfl rfl rfl rfl (flat_ints l) (by simp; omega) rfl rfl) ?_
  refine xs rfl rfl ?_
  refine nl ?_
  (repeat first | refine et ?_ | refine eb ?_)
  (repeat refine sq ?_)
  refine ev_ret ?_
  (repeat first | refine evr_then ?_ | refine evr_blk ?_)
  refine ret_pure' ttOk rfl rfl ?_
  rfl
theorem c_l1Copy (l : List Int) (hl : l.length ≤ 1000000) : Pure Tryz.prog 249 [one (ints l)] [one' (intsR 2 l)] := by
  refine pure_intro (N := 6) Tryz.func249 rfl rfl rfl rfl (fun H w => ?_)
  (repeat refine sq ?_)
  refine rg ?_
  refine xs rfl rfl ?_
  refine nl ?_
  (repeat first | refine et ?_ | refine eb ?_)
  (repeat refine sq ?_)
  refine rg ?_
  refine evl_e (e_lit ttOk rfl rfl rfl) ?_
  refine xm rfl rfl ?_
  refine evl_e (e_app_c ttOk rfl rfl rfl rfl rfl (flat_ints l) (by simp; omega) rfl rfl) ?_
  refine xs rfl rfl ?_
  refine nl ?_
  (repeat first | refine et ?_ | refine eb ?_)
  (repeat refine sq ?_)
  refine ev_ret ?_
  (repeat first | refine evr_then ?_ | refine evr_blk ?_)
  refine ret_pure' ttOk rfl rfl ?_
  rfl
theorem c_SumOf (l : List Int) : Pure Tryz.prog 250 [one (ints l)] (iR (sumOfF l)) := by
  refine pure_intro (N := 24) Tryz.func250 rfl rfl rfl rfl (fun H w => ?_)
  refine ev_lenm (t := 0) rfl (fun hL => ?_)
  (repeat refine sq ?_)
  refine rg ?_
  refine xs rfl rfl ?_
  refine nl ?_
  (repeat first | refine et ?_ | refine eb ?_)
  (repeat refine sq ?_)
  refine rg ?_
  refine xm rfl rfl ?_
  refine evl_call (nm := 6) (cf rfl) (c_RowOk _) (rs_of rfl) rfl rfl rfl ?_
  refine xo (q_not rfl) rfl ?_
  refine nl ?_
  (repeat first | refine et ?_ | refine eb ?_)
  (repeat refine sq ?_)
  refine ev_cond_n rfl (fun h1 => ?_) (fun h1 => ?_)
  · (repeat refine sq ?_)
    refine rg ?_
    refine xs rfl rfl ?_
    refine nl ?_
    (repeat first | refine et ?_ | refine eb ?_)
    (repeat refine sq ?_)
    refine ev_ret ?_
    (repeat first | refine evr_then ?_ | refine evr_blk ?_)
    refine ret_pure' ttOk rfl rfl ?_
    simp [sumOfF, h1]
  · have hn0 := (rowOk_nums h1).2
    (repeat refine sq ?_)
    refine ev_skip ?_
    (repeat first | refine et ?_ | refine eb ?_)
    (repeat refine sq ?_)
    refine rg ?_
    refine xs rfl rfl ?_
    refine nl ?_
    (repeat first | refine et ?_ | refine eb ?_)
    (repeat refine sq ?_)
    refine rg ?_
    refine xs rfl rfl ?_
    refine nl ?_
    (repeat first | refine et ?_ | refine eb ?_)
    (repeat refine sq ?_)
    refine ev_blk ?_
    (repeat refine sq ?_)
    refine ev_loop (fun i : Nat × Int => (⟨[(4, iV i.1), (0, cV (ints l)), (3, iV i.2)], [], [], []⟩ : St)) (fun i => i.1 ≤ l.length ∧ i.2 = sumF (l.take i.1) ∧ 0 ≤ i.2 ∧ i.2 < 999999937) (fun i => l.length - i.1) (0, 7) [] (⟨by simp, rfl, by omega, by omega⟩) ⟨by (repeat first | exact trivial | refine ⟨rfl, ?_⟩), by (repeat first | exact trivial | refine ⟨rfl, ?_⟩), by (repeat first | exact trivial | refine ⟨⟨_, rfl, rfl⟩, ?_⟩), by (repeat first | exact trivial | refine ⟨⟨_, rfl, rfl⟩, ?_⟩), rfl⟩ ?_
    intro i hp
    obtain ⟨k, s⟩ := i
    have hp : k ≤ l.length ∧ s = sumF (l.take k) ∧ 0 ≤ s ∧ s < 999999937 := hp
    obtain ⟨p0, p1, p2, p3⟩ := hp
    show Ev _ _ _ _ (⟨[(4, iV k), (0, cV (ints l)), (3, iV s)], [], [], []⟩ : St)
    (repeat refine sq ?_)
    refine rg ?_
    refine xm rfl rfl ?_
    refine xm rfl rfl ?_
    refine xo (q_len_map ttOk rfl rfl) rfl ?_
    refine xb ttOk rfl rfl ?_
    refine nl ?_
    (repeat first | refine et ?_ | refine eb ?_)
    (repeat refine sq ?_)
    refine ev_cond rfl (fun h2 => ?_) (fun h2 => ?_)
    · have d2 := of_decide_eq_true h2
      (repeat refine sq ?_)
      refine ev_skip ?_
      (repeat first | refine et ?_ | refine eb ?_)
      (repeat refine sq ?_)
      refine ev_blk ?_
      (repeat refine sq ?_)
      have hn := num_at hn0 (k := k) (by omega)
      refine rg ?_
      refine xm rfl rfl ?_
      refine xa rfl rfl rfl (by omega) rfl ?_
      refine xm rfl rfl ?_
      refine xm rfl rfl ?_
      refine xo (q_ix_map ttOk rfl rfl rfl rfl (by omega)) rfl ?_
      refine xl ttOk rfl rfl ?_
      refine xa rfl rfl rfl (by omega) rfl ?_
      refine xa rfl rfl rfl (by omega) rfl ?_
      first | refine xo (q_rem_pos rfl rfl (by omega)) rfl ?_ | refine xo (q_rem rfl rfl (by omega)) rfl ?_
      refine xs rfl rfl ?_
      refine nl ?_
      (repeat first | refine et ?_ | refine eb ?_)
      (repeat refine sq ?_)
      refine rg ?_
      refine xm rfl rfl ?_
      refine xa rfl rfl rfl (by omega) rfl ?_
      refine xs rfl rfl ?_
      refine nl ?_
      (repeat first | refine et ?_ | refine eb ?_)
      (repeat first | refine et ?_ | refine eb ?_)
      refine eve_round (k + 1, _) [] ?hp ⟨by (repeat first | exact trivial | refine ⟨rfl, ?_⟩), by (repeat first | exact trivial | refine ⟨rfl, ?_⟩), by (repeat first | exact trivial | refine ⟨⟨_, rfl, rfl⟩, ?_⟩), by (repeat first | exact trivial | refine ⟨⟨_, rfl, rfl⟩, ?_⟩), rfl⟩
      case hp => exact ⟨⟨by omega, sum_next (by omega) p1, Int.emod_nonneg _ (by omega), Int.emod_lt_of_pos _ (by omega)⟩, by omega⟩
    · have d2 := of_decide_eq_false h2
      (repeat refine sq ?_)
      refine ev_exit ?_
      (repeat first | refine evx_then ?_ | refine evx_hit ?_ | refine evx_miss rfl ?_)
      (repeat first | refine et ?_ | refine eb ?_)
      (repeat refine sq ?_)
      refine rg ?_
      refine xm rfl rfl ?_
      refine xs rfl rfl ?_
      refine nl ?_
      (repeat first | refine et ?_ | refine eb ?_)
      (repeat refine sq ?_)
      refine ev_ret ?_
      (repeat first | refine evr_then ?_ | refine evr_blk ?_)
      refine ret_pure' ttOk rfl rfl ?_
      rw [sum_all (by omega) p1]; simp [sumOfF, h1]

end Go.Proofs.YtpbhcdgdabfhfaaGreat
