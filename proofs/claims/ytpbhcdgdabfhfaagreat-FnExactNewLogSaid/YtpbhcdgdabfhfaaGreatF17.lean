/- Walks of functions of the program, printed by a program of the prover. -/
import Derived.Test.YtpbhcdgdabfhfaaGreatF16
namespace Go.Proofs.YtpbhcdgdabfhfaaGreat
open Go.ChangeShapes Go.WideShapes Go.ChangeAt Go.RowKit
set_option linter.unusedVariables false
set_option linter.unusedSimpArgs false
set_option maxHeartbeats 1000000
set_option maxRecDepth 100000
attribute [local irreducible] EvL Ev EvE Quiet Eff Pure RDk RDb RDo
theorem h_ints (m : Nat) (q q2 : Int) (hq : q2 = q) (h : 0 ≤ q ∧ q + (1 * m : Nat) ≤ 2199023255552) : Pure Tryz.prog 241 [one (.s 1 (mk1 q m)), one (iC q2)] (iR (q + (m : Nat))) := by
  refine pure_intro (N := 21) Tryz.func241 rfl rfl rfl rfl (fun H w => ?_)
  have hr := rangeLen m
  (repeat refine sq ?_)
  refine rg ?_
  refine xs rfl rfl ?_
  refine nl ?_
  (repeat first | refine et ?_ | refine eb ?_)
  (repeat refine sq ?_)
  refine rg ?_
  refine xs rfl rfl ?_
  refine nl ?_
  (repeat first | refine et ?_ | refine eb ?_)
  (repeat refine sq ?_)
  refine ev_blk ?_
  (repeat refine sq ?_)
  refine ev_loop (fun i : Nat × Int => (⟨[(5, iV i.1), (0, cV (.s 1 (mk1 q m))), (1, iV i.2)], [], [], []⟩ : St)) (fun i => i.1 ≤ m ∧ i.2 = q + (i.1 : Nat)) (fun i => m - i.1) (0, q2) [] (⟨by simp, by simp [hq]⟩) ⟨by (repeat first | exact trivial | refine ⟨rfl, ?_⟩), by (repeat first | exact trivial | refine ⟨rfl, ?_⟩), by (repeat first | exact trivial | refine ⟨⟨_, rfl, rfl⟩, ?_⟩), by (repeat first | exact trivial | refine ⟨⟨_, rfl, rfl⟩, ?_⟩), rfl⟩ ?_
  intro i hp
  obtain ⟨k, z⟩ := i
  have hp : k ≤ m ∧ z = q + (k : Nat) := hp
  obtain ⟨p0, p1⟩ := hp
  show Ev _ _ _ _ (⟨[(5, iV k), (0, cV (.s 1 (mk1 q m))), (1, iV z)], [], [], []⟩ : St)
  (repeat refine sq ?_)
  refine rg ?_
  refine xm rfl rfl ?_
  refine xm rfl rfl ?_
  refine xo (q_len_map ttOk rfl rfl) rfl ?_
  refine xb ttOk rfl rfl ?_
  refine nl ?_
  (repeat first | refine et ?_ | refine eb ?_)
  (repeat refine sq ?_)
  refine ev_cond rfl (fun h1 => ?_) (fun h1 => ?_)
  · have d1 := of_decide_eq_true h1
    (repeat refine sq ?_)
    refine ev_skip ?_
    (repeat first | refine et ?_ | refine eb ?_)
    (repeat refine sq ?_)
    refine ev_blk ?_
    (repeat refine sq ?_)
    refine rg ?_
    refine xm rfl rfl ?_
    refine xm rfl rfl ?_
    refine xo (q_ix_map ttOk rfl rfl rfl rfl (by omega)) rfl ?_
    refine xl ttOk rfl rfl ?_
    refine xm rfl rfl ?_
    refine xb ttOk rfl rfl ?_
    refine nl ?_
    (repeat first | refine et ?_ | refine eb ?_)
    (repeat refine sq ?_)
    refine ev_cond rfl (fun h2 => ?_) (fun h2 => ?_)
    · have d2 := of_decide_eq_true h2
      (repeat refine sq ?_)
      refine rg ?_
      refine xs rfl rfl ?_
      refine nl ?_
      (repeat first | refine et ?_ | refine eb ?_)
      (repeat refine sq ?_)
      refine ev_ret ?_
      (repeat first | refine evr_then ?_ | refine evr_blk ?_)
      refine ret_pure' ttOk rfl rfl ?_
      refine congrArg iR (?_ : _ = _)
      first | omega | (exfalso; simp only [List.getElem_range] at *; omega) | (simp only [List.getElem_range] at *; omega)
    · have d2 := of_decide_eq_false h2
      (repeat refine sq ?_)
      refine ev_skip ?_
      (repeat first | refine et ?_ | refine eb ?_)
      (repeat refine sq ?_)
      refine rg ?_
      refine xm rfl rfl ?_
      refine xa rfl rfl rfl (by omega) rfl ?_
      refine xs rfl rfl ?_
      refine nl ?_
      (repeat first | refine et ?_ | refine eb ?_)
      (repeat refine sq ?_)
      refine rg ?_
      refine xm rfl rfl ?_
      refine xa rfl rfl rfl (by omega) rfl ?_
      refine xs rfl rfl ?_
      refine nl ?_
      (repeat first | refine et ?_ | refine eb ?_)
      (repeat first | refine et ?_ | refine eb ?_)
      refine eve_round (k + 1, _) [] ?hp ⟨by (repeat first | exact trivial | refine ⟨rfl, ?_⟩), by (repeat first | exact trivial | refine ⟨rfl, ?_⟩), by (repeat first | exact trivial | refine ⟨⟨_, rfl, rfl⟩, ?_⟩), by (repeat first | exact trivial | refine ⟨⟨_, rfl, rfl⟩, ?_⟩), rfl⟩
      case hp =>
        dsimp only
        exact ⟨⟨by omega, by omega⟩, by omega⟩
  · have d1 := of_decide_eq_false h1
    (repeat refine sq ?_)
    refine ev_exit ?_
    (repeat first | refine evx_then ?_ | refine evx_hit ?_ | refine evx_miss rfl ?_)
    (repeat first | refine et ?_ | refine eb ?_)
    (repeat refine sq ?_)
    refine rg ?_
    refine xm rfl rfl ?_
    refine xs rfl rfl ?_
    refine nl ?_
    (repeat first | refine et ?_ | refine eb ?_)
    (repeat refine sq ?_)
    refine ev_ret ?_
    (repeat first | refine evr_then ?_ | refine evr_blk ?_)
    refine ret_pure' ttOk rfl rfl ?_
    refine congrArg iR (?_ : _ = _)
    first | omega | (exfalso; simp only [List.getElem_range] at *; omega) | (simp only [List.getElem_range] at *; omega)
theorem h_marks (m : Nat) (q q2 : Int) (hq : q2 = q) (h : 0 ≤ q ∧ q + (3 * m : Nat) ≤ 2199023255552) : Pure Tryz.prog 67 [one (.s 3 (mk3 q m)), one (iC q2)] (iR (q + (3 * m : Nat))) := by
  refine pure_intro (N := 40) Tryz.func67 rfl rfl rfl rfl (fun H w => ?_)
  have hr := rangeLen m
  (repeat refine sq ?_)
  refine rg ?_
  refine xs rfl rfl ?_
  refine nl ?_
  (repeat first | refine et ?_ | refine eb ?_)
  (repeat refine sq ?_)
  refine rg ?_
  refine xs rfl rfl ?_
  refine nl ?_
  (repeat first | refine et ?_ | refine eb ?_)
  (repeat refine sq ?_)
  refine ev_blk ?_
  (repeat refine sq ?_)
  refine ev_loop (fun i : Nat × Int => (⟨[(5, iV i.1), (0, cV (.s 3 (mk3 q m))), (1, iV i.2)], [], [], []⟩ : St)) (fun i => i.1 ≤ m ∧ i.2 = q + (3 * i.1 : Nat)) (fun i => m - i.1) (0, q2) [] (⟨by simp, by simp [hq]⟩) ⟨by (repeat first | exact trivial | refine ⟨rfl, ?_⟩), by (repeat first | exact trivial | refine ⟨rfl, ?_⟩), by (repeat first | exact trivial | refine ⟨⟨_, rfl, rfl⟩, ?_⟩), by (repeat first | exact trivial | refine ⟨⟨_, rfl, rfl⟩, ?_⟩), rfl⟩ ?_
  intro i hp
  obtain ⟨k, z⟩ := i
  have hp : k ≤ m ∧ z = q + (3 * k : Nat) := hp
  obtain ⟨p0, p1⟩ := hp
  show Ev _ _ _ _ (⟨[(5, iV k), (0, cV (.s 3 (mk3 q m))), (1, iV z)], [], [], []⟩ : St)
  (repeat refine sq ?_)
  refine rg ?_
  refine xm rfl rfl ?_
  refine xm rfl rfl ?_
  refine xo (q_len_map ttOk rfl rfl) rfl ?_
  refine xb ttOk rfl rfl ?_
  refine nl ?_
  (repeat first | refine et ?_ | refine eb ?_)
  (repeat refine sq ?_)
  refine ev_cond rfl (fun h1 => ?_) (fun h1 => ?_)
  · have d1 := of_decide_eq_true h1
    (repeat refine sq ?_)
    refine ev_skip ?_
    (repeat first | refine et ?_ | refine eb ?_)
    (repeat refine sq ?_)
    refine ev_blk ?_
    (repeat refine sq ?_)
    refine rg ?_
    refine xm rfl rfl ?_
    refine xm rfl rfl ?_
    refine xo (q_ix_map ttOk rfl rfl rfl rfl (by omega)) rfl ?_
    refine xf ttOk rfl rfl ?_
    refine xl ttOk rfl rfl ?_
    refine xm rfl rfl ?_
    refine xb ttOk rfl rfl ?_
    refine nl ?_
    (repeat first | refine et ?_ | refine eb ?_)
    (repeat refine sq ?_)
    refine ev_cond rfl (fun h2 => ?_) (fun h2 => ?_)
    · have d2 := of_decide_eq_true h2
      (repeat refine sq ?_)
      refine rg ?_
      refine xs rfl rfl ?_
      refine nl ?_
      (repeat first | refine et ?_ | refine eb ?_)
      (repeat refine sq ?_)
      refine ev_ret ?_
      (repeat first | refine evr_then ?_ | refine evr_blk ?_)
      refine ret_pure' ttOk rfl rfl ?_
      refine congrArg iR (?_ : _ = _)
      first | omega | (exfalso; simp only [List.getElem_range] at *; omega) | (simp only [List.getElem_range] at *; omega)
    · have d2 := of_decide_eq_false h2
      (repeat refine sq ?_)
      refine ev_skip ?_
      (repeat first | refine et ?_ | refine eb ?_)
      (repeat refine sq ?_)
      refine rg ?_
      refine xm rfl rfl ?_
      refine xa rfl rfl rfl (by omega) rfl ?_
      refine xs rfl rfl ?_
      refine nl ?_
      (repeat first | refine et ?_ | refine eb ?_)
      (repeat refine sq ?_)
      refine rg ?_
      refine xm rfl rfl ?_
      refine xm rfl rfl ?_
      refine xo (q_ix_map ttOk rfl rfl rfl rfl (by omega)) rfl ?_
      refine xf ttOk rfl rfl ?_
      refine xl ttOk rfl rfl ?_
      refine xm rfl rfl ?_
      refine xb ttOk rfl rfl ?_
      refine nl ?_
      (repeat first | refine et ?_ | refine eb ?_)
      (repeat refine sq ?_)
      refine ev_cond rfl (fun h3 => ?_) (fun h3 => ?_)
      · have d3 := of_decide_eq_true h3
        (repeat refine sq ?_)
        refine rg ?_
        refine xs rfl rfl ?_
        refine nl ?_
        (repeat first | refine et ?_ | refine eb ?_)
        (repeat refine sq ?_)
        refine ev_ret ?_
        (repeat first | refine evr_then ?_ | refine evr_blk ?_)
        refine ret_pure' ttOk rfl rfl ?_
        refine congrArg iR (?_ : _ = _)
        first | omega | (exfalso; simp only [List.getElem_range] at *; omega) | (simp only [List.getElem_range] at *; omega)
      · have d3 := of_decide_eq_false h3
        (repeat refine sq ?_)
        refine ev_skip ?_
        (repeat first | refine et ?_ | refine eb ?_)
        (repeat refine sq ?_)
        refine rg ?_
        refine xm rfl rfl ?_
        refine xa rfl rfl rfl (by omega) rfl ?_
        refine xs rfl rfl ?_
        refine nl ?_
        (repeat first | refine et ?_ | refine eb ?_)
        (repeat refine sq ?_)
        refine rg ?_
        refine xm rfl rfl ?_
        refine xm rfl rfl ?_
        refine xo (q_ix_map ttOk rfl rfl rfl rfl (by omega)) rfl ?_
        refine xf ttOk rfl rfl ?_
        refine xl ttOk rfl rfl ?_
        refine xm rfl rfl ?_
        refine xb ttOk rfl rfl ?_
        refine nl ?_
        (repeat first | refine et ?_ | refine eb ?_)
        (repeat refine sq ?_)
        refine ev_cond rfl (fun h4 => ?_) (fun h4 => ?_)
        · have d4 := of_decide_eq_true h4
          (repeat refine sq ?_)
          refine ev_pr [0, 1, 4, 5, 6, 7, 8, 9, 10, 11, 12, 13, 14, 15, 16, 17, 18, 19, 20, 21, 22, 23, 24, 25, 26, 27, 28, 29, 30, 31, 32, 33, 34, 35, 36, 37, 38, 39] rfl ?_
          refine rg ?_
          refine xs rfl rfl ?_
          refine nl ?_
          (repeat first | refine et ?_ | refine eb ?_)
          (repeat refine sq ?_)
          refine ev_ret ?_
          (repeat first | refine evr_then ?_ | refine evr_blk ?_)
          refine ret_pure' ttOk rfl rfl ?_
          refine congrArg iR (?_ : _ = _)
          first | omega | (exfalso; simp only [List.getElem_range] at *; omega) | (simp only [List.getElem_range] at *; omega)
        · have d4 := of_decide_eq_false h4
          (repeat refine sq ?_)
          refine ev_skip ?_
          (repeat first | refine et ?_ | refine eb ?_)
          (repeat refine sq ?_)
          refine ev_pr [0, 1, 4, 5, 6, 7, 8, 9, 10, 11, 12, 13, 14, 15, 16, 17, 18, 19, 20, 21, 22, 23, 24, 25, 26, 27, 28, 29, 30, 31, 32, 33, 34, 35, 36, 37, 38, 39] rfl ?_
          refine rg ?_
          refine xm rfl rfl ?_
          refine xa rfl rfl rfl (by omega) rfl ?_
          refine xs rfl rfl ?_
          refine nl ?_
          (repeat first | refine et ?_ | refine eb ?_)
          (repeat refine sq ?_)
          refine rg ?_
          refine xm rfl rfl ?_
          refine xa rfl rfl rfl (by omega) rfl ?_
          refine xs rfl rfl ?_
          refine nl ?_
          (repeat first | refine et ?_ | refine eb ?_)
          (repeat first | refine et ?_ | refine eb ?_)
          refine eve_round (k + 1, _) [] ?hp ⟨by (repeat first | exact trivial | refine ⟨rfl, ?_⟩), by (repeat first | exact trivial | refine ⟨rfl, ?_⟩), by (repeat first | exact trivial | refine ⟨⟨_, rfl, rfl⟩, ?_⟩), by (repeat first | exact trivial | refine ⟨⟨_, rfl, rfl⟩, ?_⟩), rfl⟩
          case hp =>
            dsimp only
            exact ⟨⟨by omega, by omega⟩, by omega⟩
  · have d1 := of_decide_eq_false h1
    (repeat refine sq ?_)
    refine ev_exit ?_
    (repeat first | refine evx_then ?_ | refine evx_hit ?_ | refine evx_miss rfl ?_)
    (repeat first | refine et ?_ | refine eb ?_)
    (repeat refine sq ?_)
    refine rg ?_
    refine xm rfl rfl ?_
    refine xs rfl rfl ?_
    refine nl ?_
    (repeat first | refine et ?_ | refine eb ?_)
    (repeat refine sq ?_)
    refine ev_ret ?_
    (repeat first | refine evr_then ?_ | refine evr_blk ?_)
    refine ret_pure' ttOk rfl rfl ?_
    refine congrArg iR (?_ : _ = _)
    first | omega | (exfalso; simp only [List.getElem_range] at *; omega) | (simp only [List.getElem_range] at *; omega)
theorem h_acks (m : Nat) (q q2 : Int) (hq : q2 = q) (h : 0 ≤ q ∧ q + (4 * m : Nat) ≤ 2199023255552) : Pure Tryz.prog 58 [one (.s 4 (mk4 q m)), one (iC q2)] (iR (q + (4 * m : Nat))) := by
  refine pure_intro (N := 49) Tryz.func58 rfl rfl rfl rfl (fun H w => ?_)
  have hr := rangeLen m
  (repeat refine sq ?_)
  refine rg ?_
  refine xs rfl rfl ?_
  refine nl ?_
  (repeat first | refine et ?_ | refine eb ?_)
  (repeat refine sq ?_)
  refine rg ?_
  refine xs rfl rfl ?_
  refine nl ?_
  (repeat first | refine et ?_ | refine eb ?_)
  (repeat refine sq ?_)
  refine ev_blk ?_
  (repeat refine sq ?_)
  refine ev_loop (fun i : Nat × Int => (⟨[(5, iV i.1), (0, cV (.s 4 (mk4 q m))), (1, iV i.2)], [], [], []⟩ : St)) (fun i => i.1 ≤ m ∧ i.2 = q + (4 * i.1 : Nat)) (fun i => m - i.1) (0, q2) [] (⟨by simp, by simp [hq]⟩) ⟨by (repeat first | exact trivial | refine ⟨rfl, ?_⟩), by (repeat first | exact trivial | refine ⟨rfl, ?_⟩), by (repeat first | exact trivial | refine ⟨⟨_, rfl, rfl⟩, ?_⟩), by (repeat first | exact trivial | refine ⟨⟨_, rfl, rfl⟩, ?_⟩), rfl⟩ ?_
  intro i hp
  obtain ⟨k, z⟩ := i
  have hp : k ≤ m ∧ z = q + (4 * k : Nat) := hp
  obtain ⟨p0, p1⟩ := hp
  show Ev _ _ _ _ (⟨[(5, iV k), (0, cV (.s 4 (mk4 q m))), (1, iV z)], [], [], []⟩ : St)
  (repeat refine sq ?_)
  refine rg ?_
  refine xm rfl rfl ?_
  refine xm rfl rfl ?_
  refine xo (q_len_map ttOk rfl rfl) rfl ?_
  refine xb ttOk rfl rfl ?_
  refine nl ?_
  (repeat first | refine et ?_ | refine eb ?_)
  (repeat refine sq ?_)
  refine ev_cond rfl (fun h1 => ?_) (fun h1 => ?_)
  · have d1 := of_decide_eq_true h1
    (repeat refine sq ?_)
    refine ev_skip ?_
    (repeat first | refine et ?_ | refine eb ?_)
    (repeat refine sq ?_)
    refine ev_blk ?_
    (repeat refine sq ?_)
    refine rg ?_
    refine xm rfl rfl ?_
    refine xm rfl rfl ?_
    refine xo (q_ix_map ttOk rfl rfl rfl rfl (by omega)) rfl ?_
    refine xf ttOk rfl rfl ?_
    refine xl ttOk rfl rfl ?_
    refine xm rfl rfl ?_
    refine xb ttOk rfl rfl ?_
    refine nl ?_
    (repeat first | refine et ?_ | refine eb ?_)
    (repeat refine sq ?_)
    refine ev_cond rfl (fun h2 => ?_) (fun h2 => ?_)
    · have d2 := of_decide_eq_true h2
      (repeat refine sq ?_)
      refine rg ?_
      refine xs rfl rfl ?_
      refine nl ?_
      (repeat first | refine et ?_ | refine eb ?_)
      (repeat refine sq ?_)
      refine ev_ret ?_
      (repeat first | refine evr_then ?_ | refine evr_blk ?_)
      refine ret_pure' ttOk rfl rfl ?_
      refine congrArg iR (?_ : _ = _)
      first | omega | (exfalso; simp only [List.getElem_range] at *; omega) | (simp only [List.getElem_range] at *; omega)
    · have d2 := of_decide_eq_false h2
      (repeat refine sq ?_)
      refine ev_skip ?_
      (repeat first | refine et ?_ | refine eb ?_)
      (repeat refine sq ?_)
      refine rg ?_
      refine xm rfl rfl ?_
      refine xa rfl rfl rfl (by omega) rfl ?_
      refine xs rfl rfl ?_
      refine nl ?_
      (repeat first | refine et ?_ | refine eb ?_)
      (repeat refine sq ?_)
      refine rg ?_
      refine xm rfl rfl ?_
      refine xm rfl rfl ?_
      refine xo (q_ix_map ttOk rfl rfl rfl rfl (by omega)) rfl ?_
      refine xf ttOk rfl rfl ?_
      refine xl ttOk rfl rfl ?_
      refine xm rfl rfl ?_
      refine xb ttOk rfl rfl ?_
      refine nl ?_
      (repeat first | refine et ?_ | refine eb ?_)
      (repeat refine sq ?_)
      refine ev_cond rfl (fun h3 => ?_) (fun h3 => ?_)
      · have d3 := of_decide_eq_true h3
        (repeat refine sq ?_)
        refine rg ?_
        refine xs rfl rfl ?_
        refine nl ?_
        (repeat first | refine et ?_ | refine eb ?_)
        (repeat refine sq ?_)
        refine ev_ret ?_
        (repeat first | refine evr_then ?_ | refine evr_blk ?_)
        refine ret_pure' ttOk rfl rfl ?_
        refine congrArg iR (?_ : _ = _)
        first | omega | (exfalso; simp only [List.getElem_range] at *; omega) | (simp only [List.getElem_range] at *; omega)
      · have d3 := of_decide_eq_false h3
        (repeat refine sq ?_)
        refine ev_skip ?_
        (repeat first | refine et ?_ | refine eb ?_)
        (repeat refine sq ?_)
        refine rg ?_
        refine xm rfl rfl ?_
        refine xa rfl rfl rfl (by omega) rfl ?_
        refine xs rfl rfl ?_
        refine nl ?_
        (repeat first | refine et ?_ | refine eb ?_)
        (repeat refine sq ?_)
        refine rg ?_
        refine xm rfl rfl ?_
        refine xm rfl rfl ?_
        refine xo (q_ix_map ttOk rfl rfl rfl rfl (by omega)) rfl ?_
        refine xf ttOk rfl rfl ?_
        refine xl ttOk rfl rfl ?_
        refine xm rfl rfl ?_
        refine xb ttOk rfl rfl ?_
        refine nl ?_
        (repeat first | refine et ?_ | refine eb ?_)
        (repeat refine sq ?_)
        refine ev_cond rfl (fun h4 => ?_) (fun h4 => ?_)
        · have d4 := of_decide_eq_true h4
          (repeat refine sq ?_)
          refine ev_pr [0, 1, 4, 5, 6, 7, 8, 9, 10, 11, 12, 13, 14, 15, 16, 17, 18, 19, 20, 21, 22, 23, 24, 25, 26, 27, 28, 29, 30, 31, 32, 33, 34, 35, 36, 37, 38, 39, 40, 41, 42, 43, 44, 45, 46, 47, 48] rfl ?_
          refine rg ?_
          refine xs rfl rfl ?_
          refine nl ?_
          (repeat first | refine et ?_ | refine eb ?_)
          (repeat refine sq ?_)
          refine ev_ret ?_
          (repeat first | refine evr_then ?_ | refine evr_blk ?_)
          refine ret_pure' ttOk rfl rfl ?_
          refine congrArg iR (?_ : _ = _)
          first | omega | (exfalso; simp only [List.getElem_range] at *; omega) | (simp only [List.getElem_range] at *; omega)
        · have d4 := of_decide_eq_false h4
          (repeat refine sq ?_)
          refine ev_skip ?_
          (repeat first | refine et ?_ | refine eb ?_)
          (repeat refine sq ?_)
          refine ev_pr [0, 1, 4, 5, 6, 7, 8, 9, 10, 11, 12, 13, 14, 15, 16, 17, 18, 19, 20, 21, 22, 23, 24, 25, 26, 27, 28, 29, 30, 31, 32, 33, 34, 35, 36, 37, 38, 39, 40, 41, 42, 43, 44, 45, 46, 47, 48] rfl ?_
          refine rg ?_
          refine xm rfl rfl ?_
          refine xa rfl rfl rfl (by omega) rfl ?_
          refine xs rfl rfl ?_
          refine nl ?_
          (repeat first | refine et ?_ | refine eb ?_)
          (repeat refine sq ?_)
          refine rg ?_
          refine xm rfl rfl ?_
          refine xm rfl rfl ?_
          refine xo (q_ix_map ttOk rfl rfl rfl rfl (by omega)) rfl ?_
          refine xf ttOk rfl rfl ?_
          refine xl ttOk rfl rfl ?_
          refine xm rfl rfl ?_
          refine xb ttOk rfl rfl ?_
          refine nl ?_
          (repeat first | refine et ?_ | refine eb ?_)
          (repeat refine sq ?_)
          refine ev_cond rfl (fun h5 => ?_) (fun h5 => ?_)
          · have d5 := of_decide_eq_true h5
            (repeat refine sq ?_)
            refine rg ?_
            refine xs rfl rfl ?_
            refine nl ?_
            (repeat first | refine et ?_ | refine eb ?_)
            (repeat refine sq ?_)
            refine ev_ret ?_
            (repeat first | refine evr_then ?_ | refine evr_blk ?_)
            refine ret_pure' ttOk rfl rfl ?_
            refine congrArg iR (?_ : _ = _)
            first | omega | (exfalso; simp only [List.getElem_range] at *; omega) | (simp only [List.getElem_range] at *; omega)
          · have d5 := of_decide_eq_false h5
            (repeat refine sq ?_)
            refine ev_skip ?_
            (repeat first | refine et ?_ | refine eb ?_)
            (repeat refine sq ?_)
            refine rg ?_
            refine xm rfl rfl ?_
            refine xa rfl rfl rfl (by omega) rfl ?_
            refine xs rfl rfl ?_
            refine nl ?_
            (repeat first | refine et ?_ | refine eb ?_)
            (repeat refine sq ?_)
            refine rg ?_
            refine xm rfl rfl ?_
            refine xa rfl rfl rfl (by omega) rfl ?_
            refine xs rfl rfl ?_
            refine nl ?_
            (repeat first | refine et ?_ | refine eb ?_)
            (repeat first | refine et ?_ | refine eb ?_)
            refine eve_round (k + 1, _) [] ?hp ⟨by (repeat first | exact trivial | refine ⟨rfl, ?_⟩), by (repeat first | exact trivial | refine ⟨rfl, ?_⟩), by (repeat first | exact trivial | refine ⟨⟨_, rfl, rfl⟩, ?_⟩), by (repeat first | exact trivial | refine ⟨⟨_, rfl, rfl⟩, ?_⟩), rfl⟩
            case hp =>
              dsimp only
              exact ⟨⟨by omega, by omega⟩, by omega⟩
  · have d1 := of_decide_eq_false h1
    (repeat refine sq ?_)
    refine ev_exit ?_
    (repeat first | refine evx_then ?_ | refine evx_hit ?_ | refine evx_miss rfl ?_)
    (repeat first | refine et ?_ | refine eb ?_)
    (repeat refine sq ?_)
    refine rg ?_
    refine xm rfl rfl ?_
    refine xs rfl rfl ?_
    refine nl ?_
    (repeat first | refine et ?_ | refine eb ?_)
    (repeat refine sq ?_)
    refine ev_ret ?_
    (repeat first | refine evr_then ?_ | refine evr_blk ?_)
    refine ret_pure' ttOk rfl rfl ?_
    refine congrArg iR (?_ : _ = _)
    first | omega | (exfalso; simp only [List.getElem_range] at *; omega) | (simp only [List.getElem_range] at *; omega)
theorem h_entries (m : Nat) (q q2 : Int) (hq : q2 = q) (h : 0 ≤ q ∧ q + (9 * m : Nat) ≤ 2199023255552) : Pure Tryz.prog 39 [one (.s 9 (mk9 q m)), one (iC q2)] (iR (q + (9 * m : Nat))) := by
  refine pure_intro (N := 99) Tryz.func39 rfl rfl rfl rfl (fun H w => ?_)
  have hr := rangeLen m
  (repeat refine sq ?_)
  refine rg ?_
  refine xs rfl rfl ?_
  refine nl ?_
  (repeat first | refine et ?_ | refine eb ?_)
  (repeat refine sq ?_)
  refine rg ?_
  refine xs rfl rfl ?_
  refine nl ?_
  (repeat first | refine et ?_ | refine eb ?_)
  (repeat refine sq ?_)
  refine ev_blk ?_
  (repeat refine sq ?_)
  refine ev_loop (fun i : Nat × Int => (⟨[(5, iV i.1), (0, cV (.s 9 (mk9 q m))), (1, iV i.2)], [], [], []⟩ : St)) (fun i => i.1 ≤ m ∧ i.2 = q + (9 * i.1 : Nat)) (fun i => m - i.1) (0, q2) [] (⟨by simp, by simp [hq]⟩) ⟨by (repeat first | exact trivial | refine ⟨rfl, ?_⟩), by (repeat first | exact trivial | refine ⟨rfl, ?_⟩), by (repeat first | exact trivial | refine ⟨⟨_, rfl, rfl⟩, ?_⟩), by (repeat first | exact trivial | refine ⟨⟨_, rfl, rfl⟩, ?_⟩), rfl⟩ ?_
  intro i hp
  obtain ⟨k, z⟩ := i
  have hp : k ≤ m ∧ z = q + (9 * k : Nat) := hp
  obtain ⟨p0, p1⟩ := hp
  show Ev _ _ _ _ (⟨[(5, iV k), (0, cV (.s 9 (mk9 q m))), (1, iV z)], [], [], []⟩ : St)
  (repeat refine sq ?_)
  refine rg ?_
  refine xm rfl rfl ?_
  refine xm rfl rfl ?_
  refine xo (q_len_map ttOk rfl rfl) rfl ?_
  refine xb ttOk rfl rfl ?_
  refine nl ?_
  (repeat first | refine et ?_ | refine eb ?_)
  (repeat refine sq ?_)
  refine ev_cond rfl (fun h1 => ?_) (fun h1 => ?_)
  · have d1 := of_decide_eq_true h1
    (repeat refine sq ?_)
    refine ev_skip ?_
    (repeat first | refine et ?_ | refine eb ?_)
    (repeat refine sq ?_)
    refine ev_blk ?_
    (repeat refine sq ?_)
    refine rg ?_
    refine xm rfl rfl ?_
    refine xm rfl rfl ?_
    refine xo (q_ix_map ttOk rfl rfl rfl rfl (by omega)) rfl ?_
    refine xf ttOk rfl rfl ?_
    refine xl ttOk rfl rfl ?_
    refine xm rfl rfl ?_
    refine xb ttOk rfl rfl ?_
    refine nl ?_
    (repeat first | refine et ?_ | refine eb ?_)
    (repeat refine sq ?_)
    refine ev_cond rfl (fun h2 => ?_) (fun h2 => ?_)
    · have d2 := of_decide_eq_true h2
      (repeat refine sq ?_)
      refine rg ?_
      refine xs rfl rfl ?_
      refine nl ?_
      (repeat first | refine et ?_ | refine eb ?_)
      (repeat refine sq ?_)
      refine ev_ret ?_
      (repeat first | refine evr_then ?_ | refine evr_blk ?_)
      refine ret_pure' ttOk rfl rfl ?_
      refine congrArg iR (?_ : _ = _)
      first | omega | (exfalso; simp only [List.getElem_range] at *; omega) | (simp only [List.getElem_range] at *; omega)
    · have d2 := of_decide_eq_false h2
      (repeat refine sq ?_)
      refine ev_skip ?_
      (repeat first | refine et ?_ | refine eb ?_)
      (repeat refine sq ?_)
      refine rg ?_
      refine xm rfl rfl ?_
      refine xa rfl rfl rfl (by omega) rfl ?_
      refine xs rfl rfl ?_
      refine nl ?_
      (repeat first | refine et ?_ | refine eb ?_)
      (repeat refine sq ?_)
      refine rg ?_
      refine xm rfl rfl ?_
      refine xm rfl rfl ?_
      refine xo (q_ix_map ttOk rfl rfl rfl rfl (by omega)) rfl ?_
      refine xf ttOk rfl rfl ?_
      refine xl ttOk rfl rfl ?_
      refine xm rfl rfl ?_
      refine xb ttOk rfl rfl ?_
      refine nl ?_
      (repeat first | refine et ?_ | refine eb ?_)
      (repeat refine sq ?_)
      refine ev_cond rfl (fun h3 => ?_) (fun h3 => ?_)
      · have d3 := of_decide_eq_true h3
        (repeat refine sq ?_)
        refine rg ?_
        refine xs rfl rfl ?_
        refine nl ?_
        (repeat first | refine et ?_ | refine eb ?_)
        (repeat refine sq ?_)
        refine ev_ret ?_
        (repeat first | refine evr_then ?_ | refine evr_blk ?_)
        refine ret_pure' ttOk rfl rfl ?_
        refine congrArg iR (?_ : _ = _)
        first | omega | (exfalso; simp only [List.getElem_range] at *; omega) | (simp only [List.getElem_range] at *; omega)
      · have d3 := of_decide_eq_false h3
        (repeat refine sq ?_)
        refine ev_skip ?_
        (repeat first | refine et ?_ | refine eb ?_)
        (repeat refine sq ?_)
        refine rg ?_
        refine xm rfl rfl ?_
        refine xa rfl rfl rfl (by omega) rfl ?_
        refine xs rfl rfl ?_
        refine nl ?_
        (repeat first | refine et ?_ | refine eb ?_)
        (repeat refine sq ?_)
        refine rg ?_
        refine xm rfl rfl ?_
        refine xm rfl rfl ?_
        refine xo (q_ix_map ttOk rfl rfl rfl rfl (by omega)) rfl ?_
        refine xf ttOk rfl rfl ?_
        refine xl ttOk rfl rfl ?_
        refine xm rfl rfl ?_
        refine xb ttOk rfl rfl ?_
        refine nl ?_
        (repeat first | refine et ?_ | refine eb ?_)
        (repeat refine sq ?_)
        refine ev_cond rfl (fun h4 => ?_) (fun h4 => ?_)
        · have d4 := of_decide_eq_true h4
          (repeat refine sq ?_)
          refine ev_pr [0, 1, 4, 5, 6, 7, 8, 9, 10, 11, 12, 13, 14, 15, 16, 17, 18, 19, 20, 21, 22, 23, 24, 25, 26, 27, 28, 29, 30, 31, 32, 33, 34, 35, 36, 37, 38, 39, 40, 41, 42, 43, 44, 45, 46, 47, 48, 49, 50, 51, 52, 53, 54, 55, 56, 57, 58, 59, 60, 61, 62, 63, 64, 65, 66, 67, 68, 69, 70, 71, 72, 73, 74, 75, 76, 77, 78, 79, 80, 81, 82, 83, 84, 85, 86, 87, 88, 89, 90, 91, 92, 93, 94, 95, 96, 97, 98] rfl ?_
          refine rg ?_
          refine xs rfl rfl ?_
          refine nl ?_
          (repeat first | refine et ?_ | refine eb ?_)
          (repeat refine sq ?_)
          refine ev_ret ?_
          (repeat first | refine evr_then ?_ | refine evr_blk ?_)
          refine ret_pure' ttOk rfl rfl ?_
          refine congrArg iR (?_ : _ = _)
          first | omega | (exfalso; simp only [List.getElem_range] at *; omega) | (simp only [List.getElem_range] at *; omega)
        · have d4 := of_decide_eq_false h4
          (repeat refine sq ?_)
          refine ev_skip ?_
          (repeat first | refine et ?_ | refine eb ?_)
          (repeat refine sq ?_)
          refine ev_pr [0, 1, 4, 5, 6, 7, 8, 9, 10, 11, 12, 13, 14, 15, 16, 17, 18, 19, 20, 21, 22, 23, 24, 25, 26, 27, 28, 29, 30, 31, 32, 33, 34, 35, 36, 37, 38, 39, 40, 41, 42, 43, 44, 45, 46, 47, 48, 49, 50, 51, 52, 53, 54, 55, 56, 57, 58, 59, 60, 61, 62, 63, 64, 65, 66, 67, 68, 69, 70, 71, 72, 73, 74, 75, 76, 77, 78, 79, 80, 81, 82, 83, 84, 85, 86, 87, 88, 89, 90, 91, 92, 93, 94, 95, 96, 97, 98] rfl ?_
          refine rg ?_
          refine xm rfl rfl ?_
          refine xa rfl rfl rfl (by omega) rfl ?_
          refine xs rfl rfl ?_
          refine nl ?_
          (repeat first | refine et ?_ | refine eb ?_)
          (repeat refine sq ?_)
          refine rg ?_
          refine xm rfl rfl ?_
          refine xm rfl rfl ?_
          refine xo (q_ix_map ttOk rfl rfl rfl rfl (by omega)) rfl ?_
          refine xf ttOk rfl rfl ?_
          refine xl ttOk rfl rfl ?_
          refine xm rfl rfl ?_
          refine xb ttOk rfl rfl ?_
          refine nl ?_
          (repeat first | refine et ?_ | refine eb ?_)
          (repeat refine sq ?_)
          refine ev_cond rfl (fun h5 => ?_) (fun h5 => ?_)
          · have d5 := of_decide_eq_true h5
            (repeat refine sq ?_)
            refine rg ?_
            refine xs rfl rfl ?_
            refine nl ?_
            (repeat first | refine et ?_ | refine eb ?_)
            (repeat refine sq ?_)
            refine ev_ret ?_
            (repeat first | refine evr_then ?_ | refine evr_blk ?_)
            refine ret_pure' ttOk rfl rfl ?_
            refine congrArg iR (?_ : _ = _)
            first | omega | (exfalso; simp only [List.getElem_range] at *; omega) | (simp only [List.getElem_range] at *; omega)
          · have d5 := of_decide_eq_false h5
            (repeat refine sq ?_)
            refine ev_skip ?_
            (repeat first | refine et ?_ | refine eb ?_)
            (repeat refine sq ?_)
            refine rg ?_
            refine xm rfl rfl ?_
            refine xa rfl rfl rfl (by omega) rfl ?_
            refine xs rfl rfl ?_
            refine nl ?_
            (repeat first | refine et ?_ | refine eb ?_)
            (repeat refine sq ?_)
            refine rg ?_
            refine xm rfl rfl ?_
            refine xm rfl rfl ?_
            refine xo (q_ix_map ttOk rfl rfl rfl rfl (by omega)) rfl ?_
            refine xf ttOk rfl rfl ?_
            refine xf ttOk rfl rfl ?_
            refine xl ttOk rfl rfl ?_
            refine xm rfl rfl ?_
            refine xb ttOk rfl rfl ?_
            refine nl ?_
            (repeat first | refine et ?_ | refine eb ?_)
            (repeat refine sq ?_)
            refine ev_cond rfl (fun h6 => ?_) (fun h6 => ?_)
            · have d6 := of_decide_eq_true h6
              (repeat refine sq ?_)
              refine rg ?_
              refine xs rfl rfl ?_
              refine nl ?_
              (repeat first | refine et ?_ | refine eb ?_)
              (repeat refine sq ?_)
              refine ev_ret ?_
              (repeat first | refine evr_then ?_ | refine evr_blk ?_)
              refine ret_pure' ttOk rfl rfl ?_
              refine congrArg iR (?_ : _ = _)
              first | omega | (exfalso; simp only [List.getElem_range] at *; omega) | (simp only [List.getElem_range] at *; omega)
            · have d6 := of_decide_eq_false h6
              (repeat refine sq ?_)
              refine ev_skip ?_
              (repeat first | refine et ?_ | refine eb ?_)
              (repeat refine sq ?_)
              refine rg ?_
              refine xm rfl rfl ?_
              refine xa rfl rfl rfl (by omega) rfl ?_
              refine xs rfl rfl ?_
              refine nl ?_
              (repeat first | refine et ?_ | refine eb ?_)
              (repeat refine sq ?_)
              refine rg ?_
              refine xm rfl rfl ?_
              refine xm rfl rfl ?_
              refine xo (q_ix_map ttOk rfl rfl rfl rfl (by omega)) rfl ?_
              refine xf ttOk rfl rfl ?_
              refine xf ttOk rfl rfl ?_
              refine xl ttOk rfl rfl ?_
              refine xm rfl rfl ?_
              refine xb ttOk rfl rfl ?_
              refine nl ?_
              (repeat first | refine et ?_ | refine eb ?_)
              (repeat refine sq ?_)
              refine ev_cond rfl (fun h7 => ?_) (fun h7 => ?_)
              · have d7 := of_decide_eq_true h7
                (repeat refine sq ?_)
                refine ev_pr [0, 1, 4, 5, 6, 7, 8, 9, 10, 11, 12, 13, 14, 15, 16, 17, 18, 19, 20, 21, 22, 23, 24, 25, 26, 27, 28, 29, 30, 31, 32, 33, 34, 35, 36, 37, 38, 39, 40, 41, 42, 43, 44, 45, 46, 47, 48, 49, 50, 51, 52, 53, 54, 55, 56, 57, 58, 59, 60, 61, 62, 63, 64, 65, 66, 67, 68, 69, 70, 71, 72, 73, 74, 75, 76, 77, 78, 79, 80, 81, 82, 83, 84, 85, 86, 87, 88, 89, 90, 91, 92, 93, 94, 95, 96, 97, 98] rfl ?_
                refine rg ?_
                refine xs rfl rfl ?_
                refine nl ?_
                (repeat first | refine et ?_ | refine eb ?_)
                (repeat refine sq ?_)
                refine ev_ret ?_
                (repeat first | refine evr_then ?_ | refine evr_blk ?_)
                refine ret_pure' ttOk rfl rfl ?_
                refine congrArg iR (?_ : _ = _)
                first | omega | (exfalso; simp only [List.getElem_range] at *; omega) | (simp only [List.getElem_range] at *; omega)
              · have d7 := of_decide_eq_false h7
                (repeat refine sq ?_)
                refine ev_skip ?_
                (repeat first | refine et ?_ | refine eb ?_)
                (repeat refine sq ?_)
                refine ev_pr [0, 1, 4, 5, 6, 7, 8, 9, 10, 11, 12, 13, 14, 15, 16, 17, 18, 19, 20, 21, 22, 23, 24, 25, 26, 27, 28, 29, 30, 31, 32, 33, 34, 35, 36, 37, 38, 39, 40, 41, 42, 43, 44, 45, 46, 47, 48, 49, 50, 51, 52, 53, 54, 55, 56, 57, 58, 59, 60, 61, 62, 63, 64, 65, 66, 67, 68, 69, 70, 71, 72, 73, 74, 75, 76, 77, 78, 79, 80, 81, 82, 83, 84, 85, 86, 87, 88, 89, 90, 91, 92, 93, 94, 95, 96, 97, 98] rfl ?_
                refine rg ?_
                refine xm rfl rfl ?_
                refine xa rfl rfl rfl (by omega) rfl ?_
                refine xs rfl rfl ?_
                refine nl ?_
                (repeat first | refine et ?_ | refine eb ?_)
                (repeat refine sq ?_)
                refine rg ?_
                refine xm rfl rfl ?_
                refine xm rfl rfl ?_
                refine xo (q_ix_map ttOk rfl rfl rfl rfl (by omega)) rfl ?_
                refine xf ttOk rfl rfl ?_
                refine xf ttOk rfl rfl ?_
                refine xl ttOk rfl rfl ?_
                refine xm rfl rfl ?_
                refine xb ttOk rfl rfl ?_
                refine nl ?_
                (repeat first | refine et ?_ | refine eb ?_)
                (repeat refine sq ?_)
                refine ev_cond rfl (fun h8 => ?_) (fun h8 => ?_)
                · have d8 := of_decide_eq_true h8
                  (repeat refine sq ?_)
                  refine rg ?_
                  refine xs rfl rfl ?_
                  refine nl ?_
                  (repeat first | refine et ?_ | refine eb ?_)
                  (repeat refine sq ?_)
                  refine ev_ret ?_
                  (repeat first | refine evr_then ?_ | refine evr_blk ?_)
                  refine ret_pure' ttOk rfl rfl ?_
                  refine congrArg iR (?_ : _ = _)
                  first | omega | (exfalso; simp only [List.getElem_range] at *; omega) | (simp only [List.getElem_range] at *; omega)
                · have d8 := of_decide_eq_false h8
                  (repeat refine sq ?_)
                  refine ev_skip ?_
                  (repeat first | refine et ?_ | refine eb ?_)
                  (repeat refine sq ?_)
                  refine rg ?_
                  refine xm rfl rfl ?_
                  refine xa rfl rfl rfl (by omega) rfl ?_
                  refine xs rfl rfl ?_
                  refine nl ?_
                  (repeat first | refine et ?_ | refine eb ?_)
                  (repeat refine sq ?_)
                  refine rg ?_
                  refine xm rfl rfl ?_
                  refine xm rfl rfl ?_
                  refine xo (q_ix_map ttOk rfl rfl rfl rfl (by omega)) rfl ?_
                  refine xf ttOk rfl rfl ?_
                  refine xf ttOk rfl rfl ?_
                  refine xl ttOk rfl rfl ?_
                  refine xm rfl rfl ?_
                  refine xb ttOk rfl rfl ?_
                  refine nl ?_
                  (repeat first | refine et ?_ | refine eb ?_)
                  (repeat refine sq ?_)
                  refine ev_cond rfl (fun h9 => ?_) (fun h9 => ?_)
                  · have d9 := of_decide_eq_true h9
                    (repeat refine sq ?_)
                    refine rg ?_
                    refine xs rfl rfl ?_
                    refine nl ?_
                    (repeat first | refine et ?_ | refine eb ?_)
                    (repeat refine sq ?_)
                    refine ev_ret ?_
                    (repeat first | refine evr_then ?_ | refine evr_blk ?_)
                    refine ret_pure' ttOk rfl rfl ?_
                    refine congrArg iR (?_ : _ = _)
                    first | omega | (exfalso; simp only [List.getElem_range] at *; omega) | (simp only [List.getElem_range] at *; omega)
                  · have d9 := of_decide_eq_false h9
                    (repeat refine sq ?_)
                    refine ev_skip ?_
                    (repeat first | refine et ?_ | refine eb ?_)
                    (repeat refine sq ?_)
                    refine rg ?_
                    refine xm rfl rfl ?_
                    refine xa rfl rfl rfl (by omega) rfl ?_
                    refine xs rfl rfl ?_
                    refine nl ?_
                    (repeat first | refine et ?_ | refine eb ?_)
                    (repeat refine sq ?_)
                    refine ev_pr [0, 1, 4, 5, 6, 7, 8, 9, 10, 11, 12, 13, 14, 15, 16, 17, 18, 19, 20, 21, 22, 23, 24, 25, 26, 27, 28, 29, 30, 31, 32, 33, 34, 35, 36, 37, 38, 39, 40, 41, 42, 43, 44, 45, 46, 47, 48, 49, 50, 51, 52, 53, 54, 55, 56, 57, 58, 59, 60, 61, 62, 63, 64, 65, 66, 67, 68, 69, 70, 71, 72, 73, 74, 75, 76, 77, 78, 79, 80, 81, 82, 83, 84, 85, 86, 87, 88, 89, 90, 91, 92, 93, 94, 95, 96, 97, 98] rfl ?_
                    refine rg ?_
                    refine xm rfl rfl ?_
                    refine xm rfl rfl ?_
                    refine xo (q_ix_map ttOk rfl rfl rfl rfl (by omega)) rfl ?_
                    refine xf ttOk rfl rfl ?_
                    refine xf ttOk rfl rfl ?_
                    refine xl ttOk rfl rfl ?_
                    refine xm rfl rfl ?_
                    refine xb ttOk rfl rfl ?_
                    refine nl ?_
                    (repeat first | refine et ?_ | refine eb ?_)
                    (repeat refine sq ?_)
                    refine ev_cond rfl (fun h10 => ?_) (fun h10 => ?_)
                    · have d10 := of_decide_eq_true h10
                      (repeat refine sq ?_)
                      refine rg ?_
                      refine xs rfl rfl ?_
                      refine nl ?_
                      (repeat first | refine et ?_ | refine eb ?_)
                      (repeat refine sq ?_)
                      refine ev_ret ?_
                      (repeat first | refine evr_then ?_ | refine evr_blk ?_)
                      refine ret_pure' ttOk rfl rfl ?_
                      refine congrArg iR (?_ : _ = _)
                      first | omega | (exfalso; simp only [List.getElem_range] at *; omega) | (simp only [List.getElem_range] at *; omega)
                    · have d10 := of_decide_eq_false h10
                      (repeat refine sq ?_)
                      refine ev_skip ?_
                      (repeat first | refine et ?_ | refine eb ?_)
                      (repeat refine sq ?_)
                      refine rg ?_
                      refine xm rfl rfl ?_
                      refine xa rfl rfl rfl (by omega) rfl ?_
                      refine xs rfl rfl ?_
                      refine nl ?_
                      (repeat first | refine et ?_ | refine eb ?_)
                      (repeat refine sq ?_)
                      refine rg ?_
                      refine xm rfl rfl ?_
                      refine xa rfl rfl rfl (by omega) rfl ?_
                      refine xs rfl rfl ?_
                      refine nl ?_
                      (repeat first | refine et ?_ | refine eb ?_)
                      (repeat first | refine et ?_ | refine eb ?_)
                      refine eve_round (k + 1, _) [] ?hp ⟨by (repeat first | exact trivial | refine ⟨rfl, ?_⟩), by (repeat first | exact trivial | refine ⟨rfl, ?_⟩), by (repeat first | exact trivial | refine ⟨⟨_, rfl, rfl⟩, ?_⟩), by (repeat first | exact trivial | refine ⟨⟨_, rfl, rfl⟩, ?_⟩), rfl⟩
                      case hp =>
                        dsimp only
                        exact ⟨⟨by omega, by omega⟩, by omega⟩
  · have d1 := of_decide_eq_false h1
    (repeat refine sq ?_)
    refine ev_exit ?_
    (repeat first | refine evx_then ?_ | refine evx_hit ?_ | refine evx_miss rfl ?_)
    (repeat first | refine et ?_ | refine eb ?_)
    (repeat refine sq ?_)
    refine rg ?_
    refine xm rfl rfl ?_
    refine xs rfl rfl ?_
    refine nl ?_
    (repeat first | refine et ?_ | refine eb ?_)
    (repeat refine sq ?_)
    refine ev_ret ?_
    (repeat first | refine evr_then ?_ | refine evr_blk ?_)
    refine ret_pure' ttOk rfl rfl ?_
    refine congrArg iR (?_ : _ = _)
    first | omega | (exfalso; simp only [List.getElem_range] at *; omega) | (simp only [List.getElem_range] at *; omega)
theorem h_rows (K : List (List Int)) (q q2 : Int) (hq : q2 = q) (h : 0 ≤ q ∧ q + (sumN List.length K : Nat) ≤ 2199023255552) (hl : K.length ≤ 1048576) : Pure Tryz.prog 197 [one (.s 1 (mkRows q K)), one (iC q2)] (iR (q + (sumN List.length K : Nat))) := by
  refine pure_intro (N := 21) Tryz.func197 rfl rfl rfl rfl (fun H w => ?_)
  have hr := rangeLen K.length
  (repeat refine sq ?_)
  refine rg ?_
  refine xs rfl rfl ?_
  refine nl ?_
  (repeat first | refine et ?_ | refine eb ?_)
  (repeat refine sq ?_)
  refine rg ?_
  refine xs rfl rfl ?_
  refine nl ?_
  (repeat first | refine et ?_ | refine eb ?_)
  (repeat refine sq ?_)
  refine ev_blk ?_
  (repeat refine sq ?_)
  refine ev_loop (fun i : Nat × Int => (⟨[(5, iV i.1), (0, cV (.s 1 (mkRows q K))), (1, iV i.2)], [], [], []⟩ : St)) (fun i => i.1 ≤ K.length ∧ i.2 = q + (sumN List.length (K.take i.1) : Nat)) (fun i => K.length - i.1) (0, q2) [] (⟨by simp, by simp [hq, sumN]⟩) ⟨by (repeat first | exact trivial | refine ⟨rfl, ?_⟩), by (repeat first | exact trivial | refine ⟨rfl, ?_⟩), by (repeat first | exact trivial | refine ⟨⟨_, rfl, rfl⟩, ?_⟩), by (repeat first | exact trivial | refine ⟨⟨_, rfl, rfl⟩, ?_⟩), rfl⟩ ?_
  intro i hp
  obtain ⟨k, z⟩ := i
  have hp : k ≤ K.length ∧ z = q + (sumN List.length (K.take k) : Nat) := hp
  obtain ⟨p0, p1⟩ := hp
  show Ev _ _ _ _ (⟨[(5, iV k), (0, cV (.s 1 (mkRows q K))), (1, iV z)], [], [], []⟩ : St)
  (repeat refine sq ?_)
  refine rg ?_
  refine xm rfl rfl ?_
  refine xm rfl rfl ?_
  refine xo (q_len_map ttOk rfl rfl) rfl ?_
  refine xb ttOk rfl rfl ?_
  refine nl ?_
  (repeat first | refine et ?_ | refine eb ?_)
  (repeat refine sq ?_)
  refine ev_cond rfl (fun h1 => ?_) (fun h1 => ?_)
  · have d1 := of_decide_eq_true h1
    (repeat refine sq ?_)
    refine ev_skip ?_
    (repeat first | refine et ?_ | refine eb ?_)
    (repeat refine sq ?_)
    refine ev_blk ?_
    (repeat refine sq ?_)
    have s1 := sumN_next (f := List.length) (l := K) (k := k) (by omega)
    have s2 := sumN_le List.length K (k + 1)
    have s4 := congrArg List.length (getD_len (K := K) (k := k) (by omega))
    refine rg ?_
    refine xm rfl rfl ?_
    refine xm rfl rfl ?_
    refine xo (q_ix_map ttOk rfl rfl rfl rfl (by omega)) rfl ?_
    refine xl ttOk rfl rfl ?_
    refine xm rfl rfl ?_
    refine evl_call (nm := 17) (cf rfl) (h_ints _ _ _ (by simp only [List.getElem_range]; omega) (by simp only [List.getElem_range]; rw [s4]; omega)) (rs_of rfl) rfl rfl rfl ?_
    refine xs rfl rfl ?_
    refine nl ?_
    (repeat first | refine et ?_ | refine eb ?_)
    (repeat refine sq ?_)
    refine rg ?_
    refine xm rfl rfl ?_
    refine xb ttOk rfl rfl ?_
    refine nl ?_
    (repeat first | refine et ?_ | refine eb ?_)
    (repeat refine sq ?_)
    refine ev_cond rfl (fun h2 => ?_) (fun h2 => ?_)
    · have d2 := of_decide_eq_true h2
      (repeat refine sq ?_)
      refine rg ?_
      refine xs rfl rfl ?_
      refine nl ?_
      (repeat first | refine et ?_ | refine eb ?_)
      (repeat refine sq ?_)
      refine ev_ret ?_
      (repeat first | refine evr_then ?_ | refine evr_blk ?_)
      refine ret_pure' ttOk rfl rfl ?_
      refine congrArg iR (?_ : _ = _)
      first | (exfalso; simp only [List.getElem_range] at *; rw [s4] at *; omega) | omega
    · have d2 := of_decide_eq_false h2
      (repeat refine sq ?_)
      refine ev_skip ?_
      (repeat first | refine et ?_ | refine eb ?_)
      (repeat refine sq ?_)
      refine rg ?_
      refine xm rfl rfl ?_
      refine xa rfl rfl rfl (by omega) rfl ?_
      refine xs rfl rfl ?_
      refine nl ?_
      (repeat first | refine et ?_ | refine eb ?_)
      (repeat first | refine et ?_ | refine eb ?_)
      refine eve_round (k + 1, _) [] ?hp ⟨by (repeat first | exact trivial | refine ⟨rfl, ?_⟩), by (repeat first | exact trivial | refine ⟨rfl, ?_⟩), by (repeat first | exact trivial | refine ⟨⟨_, rfl, rfl⟩, ?_⟩), by (repeat first | exact trivial | refine ⟨⟨_, rfl, rfl⟩, ?_⟩), rfl⟩
      case hp =>
        simp only [List.getElem_range] at *
        rw [s4] at *
        exact ⟨⟨by omega, by omega⟩, by omega⟩
  · have d1 := of_decide_eq_false h1
    (repeat refine sq ?_)
    refine ev_exit ?_
    (repeat first | refine evx_then ?_ | refine evx_hit ?_ | refine evx_miss rfl ?_)
    (repeat first | refine et ?_ | refine eb ?_)
    (repeat refine sq ?_)
    have s3 := sumN_all (f := List.length) (l := K) (k := k) (by omega)
    refine rg ?_
    refine xm rfl rfl ?_
    refine xs rfl rfl ?_
    refine nl ?_
    (repeat first | refine et ?_ | refine eb ?_)
    (repeat refine sq ?_)
    refine ev_ret ?_
    (repeat first | refine evr_then ?_ | refine evr_blk ?_)
    refine ret_pure' ttOk rfl rfl ?_
    refine congrArg iR (?_ : _ = _)
    first | (exfalso; simp only [List.getElem_range] at *; rw [s4] at *; omega) | omega
theorem h_writes (W : List (Int × List Int)) (q q2 : Int) (hq : q2 = q) (h : 0 ≤ q ∧ q + (sumN lenS W : Nat) ≤ 2199023255552) (hl : W.length ≤ 1048576) : Pure Tryz.prog 198 [one (.s 2 (mkWrites q W)), one (iC q2)] (iR (q + (sumN lenS W : Nat))) := by
  refine pure_intro (N := 31) Tryz.func198 rfl rfl rfl rfl (fun H w => ?_)
  have hr := rangeLen W.length
  (repeat refine sq ?_)
  refine rg ?_
  refine xs rfl rfl ?_
  refine nl ?_
  (repeat first | refine et ?_ | refine eb ?_)
  (repeat refine sq ?_)
  refine rg ?_
  refine xs rfl rfl ?_
  refine nl ?_
  (repeat first | refine et ?_ | refine eb ?_)
  (repeat refine sq ?_)
  refine ev_blk ?_
  (repeat refine sq ?_)
  refine ev_loop (fun i : Nat × Int => (⟨[(5, iV i.1), (0, cV (.s 2 (mkWrites q W))), (1, iV i.2)], [], [], []⟩ : St)) (fun i => i.1 ≤ W.length ∧ i.2 = q + (sumN lenS (W.take i.1) : Nat)) (fun i => W.length - i.1) (0, q2) [] (⟨by simp, by simp [hq, sumN]⟩) ⟨by (repeat first | exact trivial | refine ⟨rfl, ?_⟩), by (repeat first | exact trivial | refine ⟨rfl, ?_⟩), by (repeat first | exact trivial | refine ⟨⟨_, rfl, rfl⟩, ?_⟩), by (repeat first | exact trivial | refine ⟨⟨_, rfl, rfl⟩, ?_⟩), rfl⟩ ?_
  intro i hp
  obtain ⟨k, z⟩ := i
  have hp : k ≤ W.length ∧ z = q + (sumN lenS (W.take k) : Nat) := hp
  obtain ⟨p0, p1⟩ := hp
  show Ev _ _ _ _ (⟨[(5, iV k), (0, cV (.s 2 (mkWrites q W))), (1, iV z)], [], [], []⟩ : St)
  (repeat refine sq ?_)
  refine rg ?_
  refine xm rfl rfl ?_
  refine xm rfl rfl ?_
  refine xo (q_len_map ttOk rfl rfl) rfl ?_
  refine xb ttOk rfl rfl ?_
  refine nl ?_
  (repeat first | refine et ?_ | refine eb ?_)
  (repeat refine sq ?_)
  refine ev_cond rfl (fun h1 => ?_) (fun h1 => ?_)
  · have d1 := of_decide_eq_true h1
    (repeat refine sq ?_)
    refine ev_skip ?_
    (repeat first | refine et ?_ | refine eb ?_)
    (repeat refine sq ?_)
    refine ev_blk ?_
    (repeat refine sq ?_)
    have s1 := sumN_next (f := lenS) (l := W) (k := k) (by omega)
    have s2 := sumN_le lenS W (k + 1)
    have s5 : lenS (W[k]'(by omega)) = 1 + (W[k]'(by omega)).2.length := rfl
    have s4 := congrArg (fun x => x.2.length) (getD_lenW (K := W) (k := k) (by omega))
    refine rg ?_
    refine xm rfl rfl ?_
    refine xm rfl rfl ?_
    refine xo (q_ix_map ttOk rfl rfl rfl rfl (by omega)) rfl ?_
    refine xf ttOk rfl rfl ?_
    refine xl ttOk rfl rfl ?_
    refine xm rfl rfl ?_
    refine xb ttOk rfl rfl ?_
    refine nl ?_
    (repeat first | refine et ?_ | refine eb ?_)
    (repeat refine sq ?_)
    refine ev_cond rfl (fun h2 => ?_) (fun h2 => ?_)
    · have d2 := of_decide_eq_true h2
      (repeat refine sq ?_)
      refine rg ?_
      refine xs rfl rfl ?_
      refine nl ?_
      (repeat first | refine et ?_ | refine eb ?_)
      (repeat refine sq ?_)
      refine ev_ret ?_
      (repeat first | refine evr_then ?_ | refine evr_blk ?_)
      refine ret_pure' ttOk rfl rfl ?_
      refine congrArg iR (?_ : _ = _)
      first | (exfalso; simp only [List.getElem_range] at *; (try rw [s4] at *); omega) | omega
    · have d2 := of_decide_eq_false h2
      (repeat refine sq ?_)
      refine ev_skip ?_
      (repeat first | refine et ?_ | refine eb ?_)
      (repeat refine sq ?_)
      refine rg ?_
      refine xm rfl rfl ?_
      refine xa rfl rfl rfl (by omega) rfl ?_
      refine xs rfl rfl ?_
      refine nl ?_
      (repeat first | refine et ?_ | refine eb ?_)
      (repeat refine sq ?_)
      refine rg ?_
      refine xm rfl rfl ?_
      refine xm rfl rfl ?_
      refine xo (q_ix_map ttOk rfl rfl rfl rfl (by omega)) rfl ?_
      refine xf ttOk rfl rfl ?_
      refine xl ttOk rfl rfl ?_
      refine xm rfl rfl ?_
      refine evl_call (nm := 27) (cf rfl) (h_ints _ _ _ (by simp only [List.getElem_range]; omega) (by simp only [List.getElem_range]; rw [s4]; omega)) (rs_of rfl) rfl rfl rfl ?_
      refine xs rfl rfl ?_
      refine nl ?_
      (repeat first | refine et ?_ | refine eb ?_)
      (repeat refine sq ?_)
      refine rg ?_
      refine xm rfl rfl ?_
      refine xb ttOk rfl rfl ?_
      refine nl ?_
      (repeat first | refine et ?_ | refine eb ?_)
      (repeat refine sq ?_)
      refine ev_cond rfl (fun h3 => ?_) (fun h3 => ?_)
      · have d3 := of_decide_eq_true h3
        (repeat refine sq ?_)
        refine rg ?_
        refine xs rfl rfl ?_
        refine nl ?_
        (repeat first | refine et ?_ | refine eb ?_)
        (repeat refine sq ?_)
        refine ev_ret ?_
        (repeat first | refine evr_then ?_ | refine evr_blk ?_)
        refine ret_pure' ttOk rfl rfl ?_
        refine congrArg iR (?_ : _ = _)
        first | (exfalso; simp only [List.getElem_range] at *; (try rw [s4] at *); omega) | omega
      · have d3 := of_decide_eq_false h3
        (repeat refine sq ?_)
        refine ev_skip ?_
        (repeat first | refine et ?_ | refine eb ?_)
        (repeat refine sq ?_)
        refine rg ?_
        refine xm rfl rfl ?_
        refine xa rfl rfl rfl (by omega) rfl ?_
        refine xs rfl rfl ?_
        refine nl ?_
        (repeat first | refine et ?_ | refine eb ?_)
        (repeat first | refine et ?_ | refine eb ?_)
        refine eve_round (k + 1, _) [] ?hp ⟨by (repeat first | exact trivial | refine ⟨rfl, ?_⟩), by (repeat first | exact trivial | refine ⟨rfl, ?_⟩), by (repeat first | exact trivial | refine ⟨⟨_, rfl, rfl⟩, ?_⟩), by (repeat first | exact trivial | refine ⟨⟨_, rfl, rfl⟩, ?_⟩), rfl⟩
        case hp =>
          simp only [List.getElem_range] at *
          rw [s4] at *
          exact ⟨⟨by omega, by omega⟩, by omega⟩
  · have d1 := of_decide_eq_false h1
    (repeat refine sq ?_)
    refine ev_exit ?_
    (repeat first | refine evx_then ?_ | refine evx_hit ?_ | refine evx_miss rfl ?_)
    (repeat first | refine et ?_ | refine eb ?_)
    (repeat refine sq ?_)
    have s3 := sumN_all (f := lenS) (l := W) (k := k) (by omega)
    refine rg ?_
    refine xm rfl rfl ?_
    refine xs rfl rfl ?_
    refine nl ?_
    (repeat first | refine et ?_ | refine eb ?_)
    (repeat refine sq ?_)
    refine ev_ret ?_
    (repeat first | refine evr_then ?_ | refine evr_blk ?_)
    refine ret_pure' ttOk rfl rfl ?_
    refine congrArg iR (?_ : _ = _)
    first | (exfalso; simp only [List.getElem_range] at *; (try rw [s4] at *); omega) | omega
theorem h_disk (d : Disk) (q q2 : Int) (hq : q2 = q) (h : 0 ≤ q ∧ q ≤ 549755813888) (hs : smD d) : Pure Tryz.prog 126 [many [.s 1 (mkRows q d.kept), .s 2 (mkWrites (q + (sumN List.length d.kept : Nat)) d.wait)], one (iC q2)] (iR (q + (mkN d : Nat))) := by
  refine pure_intro (N := 18) Tryz.func126 rfl rfl rfl rfl (fun H w => ?_)
  unfold smD mkN at hs
  unfold mkN
  (repeat refine sq ?_)
  refine rg ?_
  refine evl_e (e_box rfl rfl rfl rfl) ?_
  refine xs rfl rfl ?_
  refine nl ?_
  (repeat first | refine et ?_ | refine eb ?_)
  (repeat refine sq ?_)
  refine rg ?_
  refine xf ttOk rfl rfl ?_
  refine xl ttOk rfl rfl ?_
  refine xm rfl rfl ?_
  refine evl_call (nm := 8) (cf rfl) (h_rows _ _ _ (by omega) (by omega) (by omega)) (rs_of rfl) rfl rfl rfl ?_
  refine xs rfl rfl ?_
  refine nl ?_
  (repeat first | refine et ?_ | refine eb ?_)
  (repeat refine sq ?_)
  refine rg ?_
  refine xm rfl rfl ?_
  refine xb ttOk rfl rfl ?_
  refine nl ?_
  (repeat first | refine et ?_ | refine eb ?_)
  (repeat refine sq ?_)
  refine ev_cond rfl (fun h1 => ?_) (fun h1 => ?_)
  · have d1 := of_decide_eq_true h1
    (repeat refine sq ?_)
    refine rg ?_
    refine xs rfl rfl ?_
    refine nl ?_
    (repeat first | refine et ?_ | refine eb ?_)
    (repeat refine sq ?_)
    refine ev_ret ?_
    (repeat first | refine evr_then ?_ | refine evr_blk ?_)
    refine ret_pure' ttOk rfl rfl ?_
    refine congrArg iR (?_ : _ = _)
    first | omega | rfl
  · have d1 := of_decide_eq_false h1
    (repeat refine sq ?_)
    refine ev_skip ?_
    (repeat first | refine et ?_ | refine eb ?_)
    (repeat refine sq ?_)
    refine rg ?_
    refine xf ttOk rfl rfl ?_
    refine xl ttOk rfl rfl ?_
    refine xm rfl rfl ?_
    refine evl_call (nm := 14) (cf rfl) (h_writes _ _ _ (by omega) (by omega) (by omega)) (rs_of rfl) rfl rfl rfl ?_
    refine xs rfl rfl ?_
    refine nl ?_
    (repeat first | refine et ?_ | refine eb ?_)
    (repeat refine sq ?_)
    refine rg ?_
    refine xm rfl rfl ?_
    refine xb ttOk rfl rfl ?_
    refine nl ?_
    (repeat first | refine et ?_ | refine eb ?_)
    (repeat refine sq ?_)
    refine ev_cond rfl (fun h2 => ?_) (fun h2 => ?_)
    · have d2 := of_decide_eq_true h2
      (repeat refine sq ?_)
      refine rg ?_
      refine xs rfl rfl ?_
      refine nl ?_
      (repeat first | refine et ?_ | refine eb ?_)
      (repeat refine sq ?_)
      refine ev_ret ?_
      (repeat first | refine evr_then ?_ | refine evr_blk ?_)
      refine ret_pure' ttOk rfl rfl ?_
      refine congrArg iR (?_ : _ = _)
      first | omega | rfl
    · have d2 := of_decide_eq_false h2
      (repeat refine sq ?_)
      refine ev_skip ?_
      (repeat first | refine et ?_ | refine eb ?_)
      (repeat refine sq ?_)
      refine rg ?_
      refine xm rfl rfl ?_
      refine xs rfl rfl ?_
      refine nl ?_
      (repeat first | refine et ?_ | refine eb ?_)
      (repeat refine sq ?_)
      refine ev_ret ?_
      (repeat first | refine evr_then ?_ | refine evr_blk ?_)
      refine ret_pure' ttOk rfl rfl ?_
      refine congrArg iR (?_ : _ = _)
      first | omega | rfl
theorem h_two (t : Two) (q q2 : Int) (hq : q2 = q) (h : 0 ≤ q ∧ q ≤ 274877906944) (hs : smT t) : Pure Tryz.prog 52 [many [.s 1 (mkRows q t.a.kept), .s 2 (mkWrites (q + (sumN List.length t.a.kept : Nat)) t.a.wait), .s 1 (mkRows (q + mkN t.a) t.b.kept), .s 2 (mkWrites (q + mkN t.a + (sumN List.length t.b.kept : Nat)) t.b.wait)], one (iC q2)] (iR (q + mkN t.a + mkN t.b)) := by
  refine pure_intro (N := 18) Tryz.func52 rfl rfl rfl rfl (fun H w => ?_)
  obtain ⟨hs1, hs2⟩ := hs
  have hs3 := hs1.2.2
  have hs4 := hs2.2.2
  (repeat refine sq ?_)
  refine rg ?_
  refine evl_e (e_box rfl rfl rfl rfl) ?_
  refine xs rfl rfl ?_
  refine nl ?_
  (repeat first | refine et ?_ | refine eb ?_)
  (repeat refine sq ?_)
  refine rg ?_
  refine xf ttOk rfl rfl ?_
  refine xl ttOk rfl rfl ?_
  refine xm rfl rfl ?_
  first | refine evl_call (nm := 8) (cf rfl) (h_disk t.a _ _ (by omega) (by omega) (by assumption)) (rs_of rfl) rfl rfl rfl ?_ | refine evl_call (nm := 8) (cf rfl) (h_disk t.b _ _ (by omega) (by omega) (by assumption)) (rs_of rfl) rfl rfl rfl ?_
  refine xs rfl rfl ?_
  refine nl ?_
  (repeat first | refine et ?_ | refine eb ?_)
  (repeat refine sq ?_)
  refine rg ?_
  refine xm rfl rfl ?_
  refine xb ttOk rfl rfl ?_
  refine nl ?_
  (repeat first | refine et ?_ | refine eb ?_)
  (repeat refine sq ?_)
  refine ev_cond rfl (fun h1 => ?_) (fun h1 => ?_)
  · have d1 := of_decide_eq_true h1
    (repeat refine sq ?_)
    refine rg ?_
    refine xs rfl rfl ?_
    refine nl ?_
    (repeat first | refine et ?_ | refine eb ?_)
    (repeat refine sq ?_)
    refine ev_ret ?_
    (repeat first | refine evr_then ?_ | refine evr_blk ?_)
    refine ret_pure' ttOk rfl rfl ?_
    refine congrArg iR (?_ : _ = _)
    first | omega | rfl
  · have d1 := of_decide_eq_false h1
    (repeat refine sq ?_)
    refine ev_skip ?_
    (repeat first | refine et ?_ | refine eb ?_)
    (repeat refine sq ?_)
    refine rg ?_
    refine xf ttOk rfl rfl ?_
    refine xl ttOk rfl rfl ?_
    refine xm rfl rfl ?_
    first | refine evl_call (nm := 14) (cf rfl) (h_disk t.a _ _ (by omega) (by omega) (by assumption)) (rs_of rfl) rfl rfl rfl ?_ | refine evl_call (nm := 14) (cf rfl) (h_disk t.b _ _ (by omega) (by omega) (by assumption)) (rs_of rfl) rfl rfl rfl ?_
    refine xs rfl rfl ?_
    refine nl ?_
    (repeat first | refine et ?_ | refine eb ?_)
    (repeat refine sq ?_)
    refine rg ?_
    refine xm rfl rfl ?_
    refine xb ttOk rfl rfl ?_
    refine nl ?_
    (repeat first | refine et ?_ | refine eb ?_)
    (repeat refine sq ?_)
    refine ev_cond rfl (fun h2 => ?_) (fun h2 => ?_)
    · have d2 := of_decide_eq_true h2
      (repeat refine sq ?_)
      refine rg ?_
      refine xs rfl rfl ?_
      refine nl ?_
      (repeat first | refine et ?_ | refine eb ?_)
      (repeat refine sq ?_)
      refine ev_ret ?_
      (repeat first | refine evr_then ?_ | refine evr_blk ?_)
      refine ret_pure' ttOk rfl rfl ?_
      refine congrArg iR (?_ : _ = _)
      first | omega | rfl
    · have d2 := of_decide_eq_false h2
      (repeat refine sq ?_)
      refine ev_skip ?_
      (repeat first | refine et ?_ | refine eb ?_)
      (repeat refine sq ?_)
      refine rg ?_
      refine xm rfl rfl ?_
      refine xs rfl rfl ?_
      refine nl ?_
      (repeat first | refine et ?_ | refine eb ?_)
      (repeat refine sq ?_)
      refine ev_ret ?_
      (repeat first | refine evr_then ?_ | refine evr_blk ?_)
      refine ret_pure' ttOk rfl rfl ?_
      refine congrArg iR (?_ : _ = _)
      first | omega | rfl
theorem h_head (m : Nat) (x1 x2 x3 q q2 : Int) (hq : q2 = q) (h : 0 ≤ q ∧ q + (3 * m : Nat) ≤ 2199023255552) : Pure Tryz.prog 53 [many [iC x1, iC x2, iC x3, .s 3 (mk3 q m)], one (iC q2)] (iR (q + (3 * m : Nat))) := by
  refine pure_intro (N := 12) Tryz.func53 rfl rfl rfl rfl (fun H w => ?_)
  (repeat refine sq ?_)
  refine rg ?_
  refine evl_e (e_box rfl rfl rfl rfl) ?_
  refine xs rfl rfl ?_
  refine nl ?_
  (repeat first | refine et ?_ | refine eb ?_)
  (repeat refine sq ?_)
  refine rg ?_
  refine xf ttOk rfl rfl ?_
  refine xl ttOk rfl rfl ?_
  refine xm rfl rfl ?_
  refine evl_call (nm := 8) (cf rfl) (h_marks _ _ _ (by omega) (by omega)) (rs_of rfl) rfl rfl rfl ?_
  refine xs rfl rfl ?_
  refine nl ?_
  (repeat first | refine et ?_ | refine eb ?_)
  (repeat refine sq ?_)
  refine rg ?_
  refine xm rfl rfl ?_
  refine xb ttOk rfl rfl ?_
  refine nl ?_
  (repeat first | refine et ?_ | refine eb ?_)
  (repeat refine sq ?_)
  refine ev_cond rfl (fun h1 => ?_) (fun h1 => ?_)
  · have d1 := of_decide_eq_true h1
    (repeat refine sq ?_)
    refine rg ?_
    refine xs rfl rfl ?_
    refine nl ?_
    (repeat first | refine et ?_ | refine eb ?_)
    (repeat refine sq ?_)
    refine ev_ret ?_
    (repeat first | refine evr_then ?_ | refine evr_blk ?_)
    refine ret_pure' ttOk rfl rfl ?_
    refine congrArg iR (?_ : _ = _)
    first | omega | rfl
  · have d1 := of_decide_eq_false h1
    (repeat refine sq ?_)
    refine ev_skip ?_
    (repeat first | refine et ?_ | refine eb ?_)
    (repeat refine sq ?_)
    refine rg ?_
    refine xm rfl rfl ?_
    refine xs rfl rfl ?_
    refine nl ?_
    (repeat first | refine et ?_ | refine eb ?_)
    (repeat refine sq ?_)
    refine ev_ret ?_
    (repeat first | refine evr_then ?_ | refine evr_blk ?_)
    refine ret_pure' ttOk rfl rfl ?_
    refine congrArg iR (?_ : _ = _)
    first | omega | rfl

end Go.Proofs.YtpbhcdgdabfhfaaGreat
