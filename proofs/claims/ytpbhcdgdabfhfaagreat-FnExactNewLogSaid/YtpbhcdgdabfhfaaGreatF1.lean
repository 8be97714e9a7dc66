/- Walks of functions of the program, printed by a program of the prover. -/
import Derived.Test.YtpbhcdgdabfhfaaGreatVT
import Derived.Test.YtpbhcdgdabfhfaaGreatVF
import Derived.Test.YtpbhcdgdabfhfaaGreatVD
namespace Go.Proofs.YtpbhcdgdabfhfaaGreat
open Go.ChangeShapes Go.WideShapes Go.ChangeAt Go.RowKit
set_option linter.unusedVariables false
set_option linter.unusedSimpArgs false
set_option maxHeartbeats 1000000
set_option maxRecDepth 100000
attribute [local irreducible] EvL Ev EvE Quiet Eff Pure RDk RDb RDo
@[reducible] def one' (c : RC) : Bool × List RC := (false, [c])
@[reducible] def many' (l : List RC) : Bool × List RC := (true, l)
def inB (x a b : Int) : Bool := decide (a ≤ x) && decide (x ≤ b)
def numOk (x : Int) : Bool := inB x 0 1000000000
def rowOk (l : List Int) : Bool := decide (l.length ≤ 48) && l.all numOk
theorem all_take {α : Type} {f : α → Bool} {l : List α} {k : Nat} (hk : k < l.length) (h : ∀ x ∈ l.take k, f x = true) (hf : f l[k] = true) : ∀ x ∈ l.take (k + 1), f x = true := by
  intro x hx
  rw [List.take_succ_eq_append_getElem hk] at hx
  rcases List.mem_append.1 hx with hx | hx
  · exact h x hx
  · rw [List.mem_singleton.1 hx]; exact hf
theorem all_done {α : Type} {f : α → Bool} {l : List α} {k : Nat} (hk : ¬ k < l.length) (h : ∀ x ∈ l.take k, f x = true) : l.all f = true := by
  rw [List.take_of_length_le (by omega)] at h
  simpa using h
theorem all_not {α : Type} {f : α → Bool} {l : List α} {k : Nat} (hk : k < l.length) (hf : f l[k] = false) : l.all f = false := by
  cases h : l.all f with
  | false => rfl
  | true => rw [List.all_eq_true.1 h l[k] (List.getElem_mem hk)] at hf; cases hf
theorem c_l1In (x a b : Int) : Pure Tryz.prog 76 [one (iC x), one (iC a), one (iC b)] (bR (inB x a b)) := by
  refine pure_intro (N := 15) Tryz.func76 rfl rfl rfl rfl (fun H w => ?_)
  (repeat refine sq ?_)
  refine rg ?_
  refine xs rfl rfl ?_
  refine nl ?_
  (repeat first | refine et ?_ | refine eb ?_)
  (repeat refine sq ?_)
  refine rg ?_
  refine xm rfl rfl ?_
  refine xm rfl rfl ?_
  refine xb ttOk rfl rfl ?_
  refine xm rfl rfl ?_
  refine evl_part rfl rfl (fun h1 => ?_) (fun h1 => ?_)
  · have d1 := of_decide_eq_true h1
    refine gm h1 rfl rfl rfl rfl ?_
    refine gm h1 rfl rfl rfl rfl ?_
    refine go h1 rfl rfl (q_bin ttOk rfl) rfl ?_
    refine xo (q_pick_t rfl h1 rfl) rfl ?_
    refine xs rfl rfl ?_
    refine nl ?_
    (repeat first | refine et ?_ | refine eb ?_)
    (repeat refine sq ?_)
    refine ev_ret ?_
    (repeat first | refine evr_then ?_ | refine evr_blk ?_)
    refine ret_pure' ttOk rfl rfl ?_
    refine congrArg bR (?_ : _ = _)
    simp_all [inB] <;> omega
  · have d1 := of_decide_eq_false h1
    refine gn h1 rfl rfl rfl ?_
    refine gn h1 rfl rfl rfl ?_
    refine gn h1 rfl rfl rfl ?_
    refine xo (q_pick_f rfl h1 rfl) rfl ?_
    refine xs rfl rfl ?_
    refine nl ?_
    (repeat first | refine et ?_ | refine eb ?_)
    (repeat refine sq ?_)
    refine ev_ret ?_
    (repeat first | refine evr_then ?_ | refine evr_blk ?_)
    refine ret_pure' ttOk rfl rfl ?_
    refine congrArg bR (?_ : _ = _)
    simp_all [inB] <;> omega
theorem c_between (x a b : Int) : Pure Tryz.prog 89 [one (iC x), one (iC a), one (iC b)] (bR (inB x a b)) := by
  refine pure_intro (N := 15) Tryz.func89 rfl rfl rfl rfl (fun H w => ?_)
  (repeat refine sq ?_)
  refine rg ?_
  refine xs rfl rfl ?_
  refine nl ?_
  (repeat first | refine et ?_ | refine eb ?_)
  (repeat refine sq ?_)
  refine rg ?_
  refine xm rfl rfl ?_
  refine xm rfl rfl ?_
  refine xb ttOk rfl rfl ?_
  refine xm rfl rfl ?_
  refine evl_part rfl rfl (fun h1 => ?_) (fun h1 => ?_)
  · have d1 := of_decide_eq_true h1
    refine gm h1 rfl rfl rfl rfl ?_
    refine gm h1 rfl rfl rfl rfl ?_
    refine go h1 rfl rfl (q_bin ttOk rfl) rfl ?_
    refine xo (q_pick_t rfl h1 rfl) rfl ?_
    refine xs rfl rfl ?_
    refine nl ?_
    (repeat first | refine et ?_ | refine eb ?_)
    (repeat refine sq ?_)
    refine ev_ret ?_
    (repeat first | refine evr_then ?_ | refine evr_blk ?_)
    refine ret_pure' ttOk rfl rfl ?_
    refine congrArg bR (?_ : _ = _)
    simp_all [inB] <;> omega
  · have d1 := of_decide_eq_false h1
    refine gn h1 rfl rfl rfl ?_
    refine gn h1 rfl rfl rfl ?_
    refine gn h1 rfl rfl rfl ?_
    refine xo (q_pick_f rfl h1 rfl) rfl ?_
    refine xs rfl rfl ?_
    refine nl ?_
    (repeat first | refine et ?_ | refine eb ?_)
    (repeat refine sq ?_)
    refine ev_ret ?_
    (repeat first | refine evr_then ?_ | refine evr_blk ?_)
    refine ret_pure' ttOk rfl rfl ?_
    refine congrArg bR (?_ : _ = _)
    simp_all [inB] <;> omega
theorem c_RowOk (l : List Int) : Pure Tryz.prog 243 [one (ints l)] (bR (rowOk l)) := by
  refine pure_intro (N := 19) Tryz.func243 rfl rfl rfl rfl (fun H w => ?_)
  (repeat refine sq ?_)
  refine rg ?_
  refine xs rfl rfl ?_
  refine nl ?_
  (repeat first | refine et ?_ | refine eb ?_)
  (repeat refine sq ?_)
  refine rg ?_
  refine xm rfl rfl ?_
  refine xo (q_len_map ttOk rfl rfl) rfl ?_
  refine xb ttOk rfl rfl ?_
  refine nl ?_
  (repeat first | refine et ?_ | refine eb ?_)
  (repeat refine sq ?_)
  refine ev_cond rfl (fun h1 => ?_) (fun h1 => ?_)
  · have d1 := of_decide_eq_true h1
    (repeat refine sq ?_)
    refine rg ?_
    refine xs rfl rfl ?_
    refine nl ?_
    (repeat first | refine et ?_ | refine eb ?_)
    (repeat refine sq ?_)
    refine ev_ret ?_
    (repeat first | refine evr_then ?_ | refine evr_blk ?_)
    refine ret_pure' ttOk rfl rfl ?_
    refine congrArg bR (?_ : _ = _)
    simp [rowOk]; omega
  · have d1 := of_decide_eq_false h1
    (repeat refine sq ?_)
    refine ev_skip ?_
    (repeat first | refine et ?_ | refine eb ?_)
    (repeat refine sq ?_)
    refine rg ?_
    refine xs rfl rfl ?_
    refine nl ?_
    (repeat first | refine et ?_ | refine eb ?_)
    (repeat refine sq ?_)
    refine ev_blk ?_
    (repeat refine sq ?_)
    refine ev_loop (fun k : Nat => (⟨[(3, iV k), (0, cV (ints l))], [], [], []⟩ : St)) (fun k => k ≤ l.length ∧ ∀ x ∈ l.take k, numOk x = true) (fun k => l.length - k) 0 [] (⟨by simp, by simp⟩) ⟨by (repeat first | exact trivial | refine ⟨rfl, ?_⟩), by (repeat first | exact trivial | refine ⟨rfl, ?_⟩), by (repeat first | exact trivial | refine ⟨⟨_, rfl, rfl⟩, ?_⟩), by (repeat first | exact trivial | refine ⟨⟨_, rfl, rfl⟩, ?_⟩), rfl⟩ ?_
    intro k hp
    obtain ⟨p0, p1⟩ := hp
    show Ev _ _ _ _ (⟨[(3, iV k), (0, cV (ints l))], [], [], []⟩ : St)
    (repeat refine sq ?_)
    refine rg ?_
    refine xm rfl rfl ?_
    refine xm rfl rfl ?_
    refine xo (q_len_map ttOk rfl rfl) rfl ?_
    refine xb ttOk rfl rfl ?_
    refine nl ?_
    (repeat first | refine et ?_ | refine eb ?_)
    (repeat refine sq ?_)
    refine ev_cond rfl (fun h2 => ?_) (fun h2 => ?_)
    · have d2 := of_decide_eq_true h2
      (repeat refine sq ?_)
      refine ev_skip ?_
      (repeat first | refine et ?_ | refine eb ?_)
      (repeat refine sq ?_)
      refine ev_blk ?_
      (repeat refine sq ?_)
      refine rg ?_
      refine xm rfl rfl ?_
      refine xm rfl rfl ?_
      refine xo (q_ix_map ttOk rfl rfl rfl rfl (by omega)) rfl ?_
      refine xl ttOk rfl rfl ?_
      refine evl_call (nm := 17) (cf rfl) (c_l1In _ _ _) (rs_of rfl) rfl rfl rfl ?_
      refine xo (q_not rfl) rfl ?_
      refine nl ?_
      (repeat first | refine et ?_ | refine eb ?_)
      (repeat refine sq ?_)
      refine ev_cond_n rfl (fun h3 => ?_) (fun h3 => ?_)
      · (repeat refine sq ?_)
        refine rg ?_
        refine xs rfl rfl ?_
        refine nl ?_
        (repeat first | refine et ?_ | refine eb ?_)
        (repeat refine sq ?_)
        refine ev_ret ?_
        (repeat first | refine evr_then ?_ | refine evr_blk ?_)
        refine ret_pure' ttOk rfl rfl ?_
        refine congrArg bR (?_ : _ = _)
        simp [rowOk, all_not (f := numOk) (k := k) (by omega) h3]
      · (repeat refine sq ?_)
        refine ev_skip ?_
        (repeat first | refine et ?_ | refine eb ?_)
        (repeat refine sq ?_)
        refine rg ?_
        refine xm rfl rfl ?_
        refine xa rfl rfl rfl (by omega) rfl ?_
        refine xs rfl rfl ?_
        refine nl ?_
        (repeat first | refine et ?_ | refine eb ?_)
        (repeat first | refine et ?_ | refine eb ?_)
        refine eve_round (k + 1) [] ?hp ⟨by (repeat first | exact trivial | refine ⟨rfl, ?_⟩), by (repeat first | exact trivial | refine ⟨rfl, ?_⟩), by (repeat first | exact trivial | refine ⟨⟨_, rfl, rfl⟩, ?_⟩), by (repeat first | exact trivial | refine ⟨⟨_, rfl, rfl⟩, ?_⟩), rfl⟩
        case hp => exact ⟨⟨by omega, all_take (by omega) p1 h3⟩, by omega⟩
    · have d2 := of_decide_eq_false h2
      (repeat refine sq ?_)
      refine ev_exit ?_
      (repeat first | refine evx_then ?_ | refine evx_hit ?_ | refine evx_miss rfl ?_)
      (repeat first | refine et ?_ | refine eb ?_)
      (repeat refine sq ?_)
      refine rg ?_
      refine xs rfl rfl ?_
      refine nl ?_
      (repeat first | refine et ?_ | refine eb ?_)
      (repeat refine sq ?_)
      refine ev_ret ?_
      (repeat first | refine evr_then ?_ | refine evr_blk ?_)
      refine ret_pure' ttOk rfl rfl ?_
      refine congrArg bR (?_ : _ = _)
      simp [rowOk, all_done (f := numOk) (k := k) (by omega) p1]; omega
theorem c_RowOk' (l : List Int) : Pure Tryz.prog 245 [one (ints l)] (bR (rowOk l)) := by
  refine pure_intro (N := 18) Tryz.func245 rfl rfl rfl rfl (fun H w => ?_)
  (repeat refine sq ?_)
  refine rg ?_
  refine xs rfl rfl ?_
  refine nl ?_
  (repeat first | refine et ?_ | refine eb ?_)
  (repeat refine sq ?_)
  refine rg ?_
  refine xm rfl rfl ?_
  refine xo (q_len_map ttOk rfl rfl) rfl ?_
  refine xb ttOk rfl rfl ?_
  refine nl ?_
  (repeat first | refine et ?_ | refine eb ?_)
  (repeat refine sq ?_)
  refine ev_cond rfl (fun h1 => ?_) (fun h1 => ?_)
  · have d1 := of_decide_eq_true h1
    (repeat refine sq ?_)
    refine rg ?_
    refine xs rfl rfl ?_
    refine nl ?_
    (repeat first | refine et ?_ | refine eb ?_)
    (repeat refine sq ?_)
    refine ev_ret ?_
    (repeat first | refine evr_then ?_ | refine evr_blk ?_)
    refine ret_pure' ttOk rfl rfl ?_
    refine congrArg bR (?_ : _ = _)
    simp [rowOk]; omega
  · have d1 := of_decide_eq_false h1
    (repeat refine sq ?_)
    refine ev_skip ?_
    (repeat first | refine et ?_ | refine eb ?_)
    (repeat refine sq ?_)
    refine rg ?_
    refine xm rfl rfl ?_
    refine xo (q_len_map ttOk rfl rfl) rfl ?_
    refine xm rfl rfl ?_
    refine nl ?_
    (repeat first | refine et ?_ | refine eb ?_)
    (repeat refine sq ?_)
    refine ev_blk ?_
    (repeat refine sq ?_)
    refine ev_loop (fun k : Nat => (⟨[(10, iV k), (8, cV (ints l)), (9, iV l.length)], [], [], []⟩ : St)) (fun k => k ≤ l.length ∧ ∀ x ∈ l.take k, numOk x = true) (fun k => l.length - k) 0 [] (⟨by simp, by simp⟩) ⟨by (repeat first | exact trivial | refine ⟨rfl, ?_⟩), by (repeat first | exact trivial | refine ⟨rfl, ?_⟩), by (repeat first | exact trivial | refine ⟨⟨_, rfl, rfl⟩, ?_⟩), by (repeat first | exact trivial | refine ⟨⟨_, rfl, rfl⟩, ?_⟩), rfl⟩ ?_
    intro k hp
    obtain ⟨p0, p1⟩ := hp
    show Ev _ _ _ _ (⟨[(10, iV k), (8, cV (ints l)), (9, iV l.length)], [], [], []⟩ : St)
    (repeat refine sq ?_)
    refine rg ?_
    refine xb ttOk rfl rfl ?_
    refine nl ?_
    (repeat first | refine et ?_ | refine eb ?_)
    (repeat refine sq ?_)
    refine ev_cond rfl (fun h2 => ?_) (fun h2 => ?_)
    · have d2 := of_decide_eq_true h2
      (repeat refine sq ?_)
      refine ev_skip ?_
      (repeat first | refine et ?_ | refine eb ?_)
      (repeat refine sq ?_)
      refine ev_blk ?_
      (repeat refine sq ?_)
      refine rg ?_
      refine xo (q_ix_map ttOk rfl rfl rfl rfl (by omega)) rfl ?_
      refine xl ttOk rfl rfl ?_
      refine xs rfl rfl ?_
      refine nl ?_
      (repeat first | refine et ?_ | refine eb ?_)
      (repeat refine sq ?_)
      refine rg ?_
      refine xm rfl rfl ?_
      refine evl_call (nm := 15) (cf rfl) (c_between _ _ _) (rs_of rfl) rfl rfl rfl ?_
      refine xo (q_not rfl) rfl ?_
      refine nl ?_
      (repeat first | refine et ?_ | refine eb ?_)
      (repeat refine sq ?_)
      refine ev_cond_n rfl (fun h3 => ?_) (fun h3 => ?_)
      · (repeat refine sq ?_)
        refine rg ?_
        refine xs rfl rfl ?_
        refine nl ?_
        (repeat first | refine et ?_ | refine eb ?_)
        (repeat refine sq ?_)
        refine ev_ret ?_
        (repeat first | refine evr_then ?_ | refine evr_blk ?_)
        refine ret_pure' ttOk rfl rfl ?_
        refine congrArg bR (?_ : _ = _)
        simp [rowOk, all_not (f := numOk) (k := k) (by omega) h3]
      · (repeat refine sq ?_)
        refine ev_skip ?_
        (repeat first | refine et ?_ | refine eb ?_)
        (repeat refine sq ?_)
        refine rg ?_
        refine xa rfl rfl rfl (by omega) rfl ?_
        refine xm rfl rfl ?_
        refine nl ?_
        (repeat first | refine et ?_ | refine eb ?_)
        (repeat first | refine et ?_ | refine eb ?_)
        refine eve_round (k + 1) [] ?hp ⟨by (repeat first | exact trivial | refine ⟨rfl, ?_⟩), by (repeat first | exact trivial | refine ⟨rfl, ?_⟩), by (repeat first | exact trivial | refine ⟨⟨_, rfl, rfl⟩, ?_⟩), by (repeat first | exact trivial | refine ⟨⟨_, rfl, rfl⟩, ?_⟩), rfl⟩
        case hp => exact ⟨⟨by omega, all_take (by omega) p1 h3⟩, by omega⟩
    · have d2 := of_decide_eq_false h2
      (repeat refine sq ?_)
      refine ev_exit ?_
      (repeat first | refine evx_then ?_ | refine evx_hit ?_ | refine evx_miss rfl ?_)
      (repeat first | refine et ?_ | refine eb ?_)
      (repeat refine sq ?_)
      refine rg ?_
      refine xs rfl rfl ?_
      refine nl ?_
      (repeat first | refine et ?_ | refine eb ?_)
      (repeat refine sq ?_)
      refine ev_ret ?_
      (repeat first | refine evr_then ?_ | refine evr_blk ?_)
      refine ret_pure' ttOk rfl rfl ?_
      refine congrArg bR (?_ : _ = _)
      simp [rowOk, all_done (f := numOk) (k := k) (by omega) p1]; omega

end Go.Proofs.YtpbhcdgdabfhfaaGreat
