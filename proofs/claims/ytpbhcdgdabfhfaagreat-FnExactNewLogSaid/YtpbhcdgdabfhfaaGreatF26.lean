/- Walks of functions of the program, printed by a program of the prover. -/
import Derived.Test.YtpbhcdgdabfhfaaGreatF25
namespace Go.Proofs.YtpbhcdgdabfhfaaGreat
open Go.ChangeShapes Go.WideShapes Go.ChangeAt Go.RowKit
set_option linter.unusedVariables false
set_option linter.unusedSimpArgs false
set_option maxHeartbeats 1000000
set_option maxRecDepth 100000
attribute [local irreducible] EvL Ev EvE Quiet Eff Pure RDk RDb RDo
def noMark : Mark := ⟨0, 0, 0⟩
def findM (l : List Mark) (c : Int) : Mark := (l.find? fun m => decide (m.client = c)).getD noMark
theorem find_hit {l : List Mark} {c : Int} {k : Nat} (hk : k < l.length) (h : ∀ m ∈ l.take k, m.client ≠ c) (hc : l[k].client = c) : findM l c = l[k] := by
  have e : l.find? (fun m => decide (m.client = c)) = some l[k] := by
    conv => lhs; rw [← List.take_append_drop k l, List.drop_eq_getElem_cons hk]
    rw [List.find?_append, List.find?_eq_none.2 (by simpa using h), List.find?_cons_of_pos (by simpa using hc)]
    rfl
  simp [findM, e]
theorem find_no {l : List Mark} {c : Int} {k : Nat} (hk : ¬ k < l.length) (h : ∀ m ∈ l.take k, m.client ≠ c) : findM l c = noMark := by
  rw [List.take_of_length_le (by omega)] at h
  have e : l.find? (fun m => decide (m.client = c)) = none := List.find?_eq_none.2 (by simpa using h)
  simp [findM, e]
def seenRow (l : List Mark) : Nat → List Int
  | 0 => []
  | k + 1 => seenRow l k ++ [(findM l (2 + k)).seq, (findM l (2 + k)).index]
theorem seenRow_len (l : List Mark) : ∀ k, (seenRow l k).length = 2 * k
  | 0 => rfl
  | k + 1 => by simp [seenRow, seenRow_len l k]; omega
def headRowF (h : Head) : List Int := if headOk h then [h.num, h.base, h.time] ++ seenRow h.seen 4 ++ [h.num, h.num] else []
def newKeptF : Two := mendedF (newTwoF 22) 0 (headRowF noHead)
def newLogF : LogN := ⟨newKeptF, noHead, noHead, false, ⟨0, 0, []⟩, [], 0, []⟩
theorem c_markOf (l : List Mark) (c : Int) : Pure Tryz.prog 194 [one (marks l), one (iC c)] [many' [.v (.int .i64 (findM l c).client), .v (.int .i64 (findM l c).seq), .v (.int .i64 (findM l c).index)]] := by
  refine pure_intro (N := 20) Tryz.func194 rfl rfl rfl rfl (fun H w => ?_)
  refine ev_lenm (t := 0) rfl (fun hL => ?_)
  (repeat refine sq ?_)
  refine rg ?_
  refine evl_e (e_alloc ttOk rfl rfl rfl rfl) ?_
  refine nl ?_
  (repeat first | refine et ?_ | refine eb ?_)
  (repeat refine sq ?_)
  refine rg ?_
  refine xm rfl rfl ?_
  refine xo (q_len_map ttOk rfl rfl) rfl ?_
  refine xm rfl rfl ?_
  refine nl ?_
  (repeat first | refine et ?_ | refine eb ?_)
  (repeat refine sq ?_)
  refine ev_blk ?_
  (repeat refine sq ?_)
  refine ev_loop (fun k : Nat => (⟨[(9, iV k), (8, iV l.length), (7, cV (marks l)), (1, iV c), (4, pbV 4 0)], [(4, 156, [.c (iC 0), .c (iC 0), .c (iC 0)])], [], []⟩ : St)) (fun k => k ≤ l.length ∧ ∀ m ∈ l.take k, m.client ≠ c) (fun k => l.length - k) 0 [] (⟨by simp, by simp⟩) ⟨by (repeat first | exact trivial | refine ⟨rfl, ?_⟩), by (repeat first | exact trivial | refine ⟨rfl, ?_⟩), by (repeat first | exact trivial | refine ⟨⟨_, rfl, rfl⟩, ?_⟩), by (repeat first | exact trivial | refine ⟨⟨_, rfl, rfl⟩, ?_⟩), rfl⟩ ?_
  intro k hp
  obtain ⟨p0, p1⟩ := hp
  show Ev _ _ _ _ (⟨[(9, iV k), (8, iV l.length), (7, cV (marks l)), (1, iV c), (4, pbV 4 0)], [(4, 156, [.c (iC 0), .c (iC 0), .c (iC 0)])], [], []⟩ : St)
  (repeat refine sq ?_)
  refine rg ?_
  refine xb ttOk rfl rfl ?_
  refine nl ?_
  (repeat first | refine et ?_ | refine eb ?_)
  (repeat refine sq ?_)
  refine ev_cond rfl (fun h1 => ?_) (fun h1 => ?_)
  · have d1 := of_decide_eq_true h1
    (repeat refine sq ?_)
    refine ev_skip ?_
    (repeat first | refine et ?_ | refine eb ?_)
    (repeat refine sq ?_)
    refine ev_blk ?_
    (repeat refine sq ?_)
    refine rg ?_
    refine xo (q_ix_map ttOk rfl rfl rfl rfl (by omega)) rfl ?_
    refine xl ttOk rfl rfl ?_
    refine evl_e (e_alloc ttOk rfl rfl rfl rfl) ?_
    refine xst ttOk rfl ?_ rfl
    refine nl ?_
    (repeat first | refine et ?_ | refine eb ?_)
    (repeat refine sq ?_)
    refine rg ?_
    refine xf ttOk rfl rfl ?_
    refine xl ttOk rfl rfl ?_
    refine xm rfl rfl ?_
    refine xb ttOk rfl rfl ?_
    refine nl ?_
    (repeat first | refine et ?_ | refine eb ?_)
    (repeat refine sq ?_)
    refine ev_cond rfl (fun h2 => ?_) (fun h2 => ?_)
    · have d2 := of_decide_eq_true h2
      (repeat refine sq ?_)
      refine rg ?_
      refine xl ttOk rfl rfl ?_
      refine xst ttOk rfl ?_ rfl
      refine nl ?_
      (repeat first | refine et ?_ | refine eb ?_)
      (repeat refine sq ?_)
      refine ev_ret ?_
      (repeat first | refine evr_then ?_ | refine evr_blk ?_)
      refine ret_pure' ttOk rfl rfl ?_
      first
      | (rw [find_hit (k := k) (by omega) p1 (by assumption)]; done)
      | (rw [find_no (k := k) (by omega) p1]; rfl)
    · have d2 := of_decide_eq_false h2
      (repeat refine sq ?_)
      refine ev_skip ?_
      (repeat first | refine et ?_ | refine eb ?_)
      (repeat refine sq ?_)
      refine rg ?_
      refine xa rfl rfl rfl (by omega) rfl ?_
      refine xm rfl rfl ?_
      refine nl ?_
      (repeat first | refine et ?_ | refine eb ?_)
      (repeat first | refine et ?_ | refine eb ?_)
      refine eve_round (k + 1) [] ?hp ⟨by (repeat first | exact trivial | refine ⟨rfl, ?_⟩), by (repeat first | exact trivial | refine ⟨rfl, ?_⟩), by (repeat first | exact trivial | refine ⟨⟨_, rfl, rfl⟩, ?_⟩), by (repeat first | exact trivial | refine ⟨⟨_, rfl, rfl⟩, ?_⟩), rfl⟩
      case hp => exact ⟨⟨by omega, all_takeP (by omega) p1 (by assumption)⟩, by omega⟩
  · have d1 := of_decide_eq_false h1
    (repeat refine sq ?_)
    refine ev_exit ?_
    (repeat first | refine evx_then ?_ | refine evx_hit ?_ | refine evx_miss rfl ?_)
    (repeat first | refine et ?_ | refine eb ?_)
    (repeat refine sq ?_)
    refine rg ?_
    refine xo (q_build ttOk rfl) rfl ?_
    refine xst ttOk rfl ?_ rfl
    refine nl ?_
    (repeat first | refine et ?_ | refine eb ?_)
    (repeat refine sq ?_)
    refine ev_ret ?_
    (repeat first | refine evr_then ?_ | refine evr_blk ?_)
    refine ret_pure' ttOk rfl rfl ?_
    first
    | (rw [find_hit (k := k) (by omega) p1 (by assumption)]; done)
    | (rw [find_no (k := k) (by omega) p1]; rfl)
theorem c_MarkOf (l : List Mark) (c : Int) : Pure Tryz.prog 188 [one (marks l), one (iC c)] [many' [.v (.int .i64 (if seenOk l then findM l c else noMark).client), .v (.int .i64 (if seenOk l then findM l c else noMark).seq), .v (.int .i64 (if seenOk l then findM l c else noMark).index)]] := by
  refine pure_intro (N := 28) Tryz.func188 rfl rfl rfl rfl (fun H w => ?_)
  refine ev_lenm (t := 0) rfl (fun hL => ?_)
  (repeat refine sq ?_)
  refine rg ?_
  refine evl_e (e_alloc ttOk rfl rfl rfl rfl) ?_
  refine nl ?_
  (repeat first | refine et ?_ | refine eb ?_)
  (repeat refine sq ?_)
  refine rg ?_
  refine xm rfl rfl ?_
  refine evl_call (nm := 7) (cf rfl) (c_SeenOk l) (rs_of rfl) rfl rfl rfl ?_
  refine xo (q_not rfl) rfl ?_
  refine nl ?_
  (repeat first | refine et ?_ | refine eb ?_)
  (repeat refine sq ?_)
  refine ev_cond_n rfl (fun h1 => ?_) (fun h1 => ?_)
  · try have d1 := of_decide_eq_false h1
    (repeat refine sq ?_)
    refine rg ?_
    refine xo (q_build ttOk rfl) rfl ?_
    refine xst ttOk rfl ?_ rfl
    refine nl ?_
    (repeat first | refine et ?_ | refine eb ?_)
    (repeat refine sq ?_)
    refine ev_ret ?_
    (repeat first | refine evr_then ?_ | refine evr_blk ?_)
    refine ret_pure' ttOk rfl rfl ?_
    first
    | (rw [show seenOk l = false by assumption]; rfl)
    | (rw [show seenOk l = true by assumption, if_pos rfl, find_hit (k := k) (by omega) p1 (by assumption)]; done)
    | (rw [show seenOk l = true by assumption, if_pos rfl, find_no (k := k) (by omega) p1]; rfl)
  · try have d1 := of_decide_eq_true h1
    (repeat refine sq ?_)
    refine ev_skip ?_
    (repeat first | refine et ?_ | refine eb ?_)
    (repeat refine sq ?_)
    refine rg ?_
    refine xs rfl rfl ?_
    refine nl ?_
    (repeat first | refine et ?_ | refine eb ?_)
    (repeat refine sq ?_)
    refine ev_blk ?_
    (repeat refine sq ?_)
    refine ev_loop (fun k : Nat => (⟨[(5, iV k), (0, cV (marks l)), (1, iV c), (4, pbV 4 0)], [(4, 156, [.c (iC 0), .c (iC 0), .c (iC 0)])], [], []⟩ : St)) (fun k => k ≤ l.length ∧ ∀ m ∈ l.take k, m.client ≠ c) (fun k => l.length - k) 0 [] (⟨by simp, by simp⟩) ⟨by (repeat first | exact trivial | refine ⟨rfl, ?_⟩), by (repeat first | exact trivial | refine ⟨rfl, ?_⟩), by (repeat first | exact trivial | refine ⟨⟨_, rfl, rfl⟩, ?_⟩), by (repeat first | exact trivial | refine ⟨⟨_, rfl, rfl⟩, ?_⟩), rfl⟩ ?_
    intro k hp
    obtain ⟨p0, p1⟩ := hp
    show Ev _ _ _ _ (⟨[(5, iV k), (0, cV (marks l)), (1, iV c), (4, pbV 4 0)], [(4, 156, [.c (iC 0), .c (iC 0), .c (iC 0)])], [], []⟩ : St)
    (repeat refine sq ?_)
    refine rg ?_
    refine xm rfl rfl ?_
    refine xm rfl rfl ?_
    refine xo (q_len_map ttOk rfl rfl) rfl ?_
    refine xb ttOk rfl rfl ?_
    refine nl ?_
    (repeat first | refine et ?_ | refine eb ?_)
    (repeat refine sq ?_)
    refine ev_cond rfl (fun h2 => ?_) (fun h2 => ?_)
    · try have d2 := of_decide_eq_true h2
      (repeat refine sq ?_)
      refine ev_skip ?_
      (repeat first | refine et ?_ | refine eb ?_)
      (repeat refine sq ?_)
      refine ev_blk ?_
      (repeat refine sq ?_)
      refine rg ?_
      refine xm rfl rfl ?_
      refine xm rfl rfl ?_
      refine xo (q_ix_map ttOk rfl rfl rfl rfl (by omega)) rfl ?_
      refine xf ttOk rfl rfl ?_
      refine xl ttOk rfl rfl ?_
      refine xm rfl rfl ?_
      refine xb ttOk rfl rfl ?_
      refine nl ?_
      (repeat first | refine et ?_ | refine eb ?_)
      (repeat refine sq ?_)
      refine ev_cond rfl (fun h3 => ?_) (fun h3 => ?_)
      · try have d3 := of_decide_eq_true h3
        (repeat refine sq ?_)
        refine rg ?_
        refine xm rfl rfl ?_
        refine xm rfl rfl ?_
        refine xo (q_ix_map ttOk rfl rfl rfl rfl (by omega)) rfl ?_
        refine xl ttOk rfl rfl ?_
        refine xst ttOk rfl ?_ rfl
        refine nl ?_
        (repeat first | refine et ?_ | refine eb ?_)
        (repeat refine sq ?_)
        refine ev_ret ?_
        (repeat first | refine evr_then ?_ | refine evr_blk ?_)
        refine ret_pure' ttOk rfl rfl ?_
        first
        | (rw [show seenOk l = false by assumption]; rfl)
        | (rw [show seenOk l = true by assumption, if_pos rfl, find_hit (k := k) (by omega) p1 (by assumption)]; done)
        | (rw [show seenOk l = true by assumption, if_pos rfl, find_no (k := k) (by omega) p1]; rfl)
      · try have d3 := of_decide_eq_false h3
        (repeat refine sq ?_)
        refine ev_skip ?_
        (repeat first | refine et ?_ | refine eb ?_)
        (repeat refine sq ?_)
        refine rg ?_
        refine xm rfl rfl ?_
        refine xa rfl rfl rfl (by omega) rfl ?_
        refine xs rfl rfl ?_
        refine nl ?_
        (repeat first | refine et ?_ | refine eb ?_)
        (repeat first | refine et ?_ | refine eb ?_)
        refine eve_round (k + 1) [] ?hp ⟨by (repeat first | exact trivial | refine ⟨rfl, ?_⟩), by (repeat first | exact trivial | refine ⟨rfl, ?_⟩), by (repeat first | exact trivial | refine ⟨⟨_, rfl, rfl⟩, ?_⟩), by (repeat first | exact trivial | refine ⟨⟨_, rfl, rfl⟩, ?_⟩), rfl⟩
        case hp => exact ⟨⟨by omega, all_takeP (by omega) p1 (by assumption)⟩, by omega⟩
    · try have d2 := of_decide_eq_false h2
      (repeat refine sq ?_)
      refine ev_exit ?_
      (repeat first | refine evx_then ?_ | refine evx_hit ?_ | refine evx_miss rfl ?_)
      (repeat first | refine et ?_ | refine eb ?_)
      (repeat refine sq ?_)
      refine rg ?_
      refine xo (q_build ttOk rfl) rfl ?_
      refine xst ttOk rfl ?_ rfl
      refine nl ?_
      (repeat first | refine et ?_ | refine eb ?_)
      (repeat refine sq ?_)
      refine ev_ret ?_
      (repeat first | refine evr_then ?_ | refine evr_blk ?_)
      refine ret_pure' ttOk rfl rfl ?_
      first
      | (rw [show seenOk l = false by assumption]; rfl)
      | (rw [show seenOk l = true by assumption, if_pos rfl, find_hit (k := k) (by omega) p1 (by assumption)]; done)
      | (rw [show seenOk l = true by assumption, if_pos rfl, find_no (k := k) (by omega) p1]; rfl)
theorem headRow_next (h : Head) (k : Nat) : (([h.num, h.base, h.time] ++ seenRow h.seen k).map fun x => [iC x]) ++ [[iC (findM h.seen (2 + k)).seq], [iC (findM h.seen (2 + k)).index]] = ([h.num, h.base, h.time] ++ seenRow h.seen (k + 1)).map fun x => [iC x] := by simp [seenRow]
theorem c_HeadRow' (h : Head) : Pure Tryz.prog 123 [many (headC h)] [one' (intsR 2 (headRowF h))] := by
  refine pure_intro (N := 38) Tryz.func123 rfl rfl rfl rfl (fun H w => ?_)
  (repeat refine sq ?_)
  refine rg ?_
  refine evl_e (e_box rfl rfl rfl rfl) ?_
  refine xs rfl rfl ?_
  refine nl ?_
  (repeat first | refine et ?_ | refine eb ?_)
  (repeat refine sq ?_)
  refine rg ?_
  refine xl ttOk rfl rfl ?_
  refine evl_call (nm := 7) (cf rfl) (c_HeadOk' h) (rs_of rfl) rfl rfl rfl ?_
  refine xo (q_not rfl) rfl ?_
  refine nl ?_
  (repeat first | refine et ?_ | refine eb ?_)
  (repeat refine sq ?_)
  refine ev_cond_n rfl (fun h1 => ?_) (fun h1 => ?_)
  · try have d1 := of_decide_eq_false h1
    (repeat refine sq ?_)
    refine rg ?_
    refine xs rfl rfl ?_
    refine nl ?_
    (repeat first | refine et ?_ | refine eb ?_)
    (repeat refine sq ?_)
    refine ev_ret ?_
    (repeat first | refine evr_then ?_ | refine evr_blk ?_)
    refine ret_pureN ttOk rfl rfl ?_
    rw [show headRowF h = [] by simp only [headRowF, h1]; rfl]; simp [RpLe, L2, RcLe]
  · try have d1 := of_decide_eq_true h1
    have hh : seenOk h.seen = true := by
      have := h1
      simp only [headOk, Bool.and_eq_true] at this
      exact this.2.2.2.2.1
    (repeat refine sq ?_)
    refine ev_skip ?_
    (repeat first | refine et ?_ | refine eb ?_)
    (repeat refine sq ?_)
    refine rg ?_
    refine xf ttOk rfl rfl ?_
    refine xl ttOk rfl rfl ?_
    refine xf ttOk rfl rfl ?_
    refine xl ttOk rfl rfl ?_
    refine xf ttOk rfl rfl ?_
    refine xl ttOk rfl rfl ?_
    refine evl_e (e_lit ttOk rfl rfl rfl) ?_
    refine xs rfl rfl ?_
    refine nl ?_
    (repeat first | refine et ?_ | refine eb ?_)
    (repeat refine sq ?_)
    refine rg ?_
    refine xs rfl rfl ?_
    refine nl ?_
    (repeat first | refine et ?_ | refine eb ?_)
    (repeat refine sq ?_)
    refine ev_blk ?_
    (repeat refine sq ?_)
    refine ev_loop (fun i : Nat × Int => (⟨[(1, pbV 1 0), (3, .p false [.rt 101]), (4, iV i.2)], [(1, 30, [.c (iC h.num), .c (iC h.base), .c (iC h.time), .c (marks h.seen)])], [(101, 2, 1, (([h.num, h.base, h.time] ++ seenRow h.seen i.1).map fun x => [iC x]))], []⟩ : St)) (fun i => i.1 ≤ 4 ∧ i.2 = (i.1 : Int) + 2) (fun i => 4 - i.1) (0, 2) [(101, 15)] (⟨by simp, rfl⟩) ⟨by (repeat first | exact trivial | refine ⟨rfl, ?_⟩), by (repeat first | exact trivial | refine ⟨rfl, ?_⟩), ⟨⟨_, rfl, by rfl⟩, trivial⟩, by (repeat first | exact trivial | refine ⟨⟨_, rfl, rfl⟩, ?_⟩), rfl⟩ ?_
    intro i hp
    obtain ⟨k, z⟩ := i
    have hp : k ≤ 4 ∧ z = (k : Int) + 2 := hp
    obtain ⟨p0, p1⟩ := hp
    show Ev _ _ _ _ (⟨[(1, pbV 1 0), (3, .p false [.rt 101]), (4, iV z)], [(1, 30, [.c (iC h.num), .c (iC h.base), .c (iC h.time), .c (marks h.seen)])], [(101, 2, 1, (([h.num, h.base, h.time] ++ seenRow h.seen k).map fun x => [iC x]))], []⟩ : St)
    (repeat refine sq ?_)
    refine rg ?_
    refine xm rfl rfl ?_
    refine xb ttOk rfl rfl ?_
    refine nl ?_
    (repeat first | refine et ?_ | refine eb ?_)
    (repeat refine sq ?_)
    refine ev_cond rfl (fun h2 => ?_) (fun h2 => ?_)
    · try have d2 := of_decide_eq_true h2
      (repeat refine sq ?_)
      refine ev_skip ?_
      (repeat first | refine et ?_ | refine eb ?_)
      (repeat refine sq ?_)
      refine ev_blk ?_
      (repeat refine sq ?_)
      refine rg ?_
      refine xf ttOk rfl rfl ?_
      refine xl ttOk rfl rfl ?_
      refine xm rfl rfl ?_
      refine evl_call (nm := 23) (cf rfl) (c_markOf h.seen z) (rs_of rfl) rfl rfl rfl ?_
      refine evl_e (e_alloc ttOk rfl rfl rfl rfl) ?_
      refine xst ttOk rfl ?_ rfl
      refine nl ?_
      (repeat first | refine et ?_ | refine eb ?_)
      (repeat refine sq ?_)
      have hsr := headRow_next h k
      refine rg ?_
      refine xm rfl rfl ?_
      refine xf ttOk rfl rfl ?_
      refine xl ttOk rfl rfl ?_
      refine xf ttOk rfl rfl ?_
      refine xl ttOk rfl rfl ?_
      refine evl_e (e_lit ttOk rfl rfl rfl) ?_
      refine evl_e (e_app ttOk rfl rfl rfl rfl rfl rfl rfl (by simp [seenRow_len]; omega) rfl rfl) ?_
      refine xs rfl rfl ?_
      refine nl ?_
      (repeat first | refine et ?_ | refine eb ?_)
      (repeat refine sq ?_)
      refine rg ?_
      refine xm rfl rfl ?_
      refine xa rfl rfl rfl (by omega) rfl ?_
      refine xs rfl rfl ?_
      refine nl ?_
      (repeat first | refine et ?_ | refine eb ?_)
      (repeat first | refine et ?_ | refine eb ?_)
      refine eve_round (k + 1, _) [(101, 30)] ?hp ⟨by (repeat first | exact trivial | refine ⟨rfl, ?_⟩), by (repeat first | exact trivial | refine ⟨rfl, ?_⟩), ⟨⟨_, rfl, by rw [show (2 : Int) + k = z by omega] at hsr; exact hsr⟩, trivial⟩, by (repeat first | exact trivial | refine ⟨⟨_, rfl, rfl⟩, ?_⟩), rfl⟩
      case hp => exact ⟨⟨by omega, by omega⟩, by omega⟩
    · try have d2 := of_decide_eq_false h2
      (repeat refine sq ?_)
      refine ev_exit ?_
      (repeat first | refine evx_then ?_ | refine evx_hit ?_ | refine evx_miss rfl ?_)
      (repeat first | refine et ?_ | refine eb ?_)
      (repeat refine sq ?_)
      refine rg ?_
      refine xm rfl rfl ?_
      refine xf ttOk rfl rfl ?_
      refine xl ttOk rfl rfl ?_
      refine xf ttOk rfl rfl ?_
      refine xl ttOk rfl rfl ?_
      refine evl_e (e_lit ttOk rfl rfl rfl) ?_
      refine evl_e (e_app ttOk rfl rfl rfl rfl rfl rfl rfl (by simp [seenRow_len]; omega) rfl rfl) ?_
      refine xs rfl rfl ?_
      refine nl ?_
      (repeat first | refine et ?_ | refine eb ?_)
      (repeat refine sq ?_)
      refine ev_ret ?_
      (repeat first | refine evr_then ?_ | refine evr_blk ?_)
      refine ret_pure' ttOk rfl rfl ?_
      obtain rfl : k = 4 := by omega
      rw [show headRowF h = [h.num, h.base, h.time] ++ seenRow h.seen 4 ++ [h.num, h.num] by simp only [headRowF, h1]; rfl]; simp
theorem c_MarkOf2 (l : List Mark) (c : Int) (h : seenOk l = true) : Pure Tryz.prog 188 [one (marks l), one (iC c)] [many' [.v (.int .i64 (findM l c).client), .v (.int .i64 (findM l c).seq), .v (.int .i64 (findM l c).index)]] := by
  have := c_MarkOf l c
  rw [h] at this
  exact this
theorem c_HeadRow (h : Head) : Pure Tryz.prog 117 [many (headC h)] [one' (intsR 2 (headRowF h))] := by
  refine pure_intro (N := 39) Tryz.func117 rfl rfl rfl rfl (fun H w => ?_)
  (repeat refine sq ?_)
  refine rg ?_
  refine evl_e (e_box rfl rfl rfl rfl) ?_
  refine xs rfl rfl ?_
  refine nl ?_
  (repeat first | refine et ?_ | refine eb ?_)
  (repeat refine sq ?_)
  refine rg ?_
  refine xl ttOk rfl rfl ?_
  refine evl_call (nm := 7) (cf rfl) (c_HeadOk h) (rs_of rfl) rfl rfl rfl ?_
  refine xo (q_not rfl) rfl ?_
  refine nl ?_
  (repeat first | refine et ?_ | refine eb ?_)
  (repeat refine sq ?_)
  refine ev_cond_n rfl (fun h1 => ?_) (fun h1 => ?_)
  · try have d1 := of_decide_eq_false h1
    (repeat refine sq ?_)
    refine rg ?_
    refine evl_e (e_lit ttOk rfl rfl rfl) ?_
    refine xs rfl rfl ?_
    refine nl ?_
    (repeat first | refine et ?_ | refine eb ?_)
    (repeat refine sq ?_)
    refine ev_ret ?_
    (repeat first | refine evr_then ?_ | refine evr_blk ?_)
    refine ret_pure' ttOk rfl rfl ?_
    rw [show headRowF h = [] by simp only [headRowF, h1]; rfl]; rfl
  · try have d1 := of_decide_eq_true h1
    have hh : seenOk h.seen = true := by
      have := h1
      simp only [headOk, Bool.and_eq_true] at this
      exact this.2.2.2.2.1
    (repeat refine sq ?_)
    refine ev_skip ?_
    (repeat first | refine et ?_ | refine eb ?_)
    (repeat refine sq ?_)
    refine rg ?_
    refine xf ttOk rfl rfl ?_
    refine xl ttOk rfl rfl ?_
    refine xf ttOk rfl rfl ?_
    refine xl ttOk rfl rfl ?_
    refine xf ttOk rfl rfl ?_
    refine xl ttOk rfl rfl ?_
    refine evl_e (e_lit ttOk rfl rfl rfl) ?_
    refine xs rfl rfl ?_
    refine nl ?_
    (repeat first | refine et ?_ | refine eb ?_)
    (repeat refine sq ?_)
    refine rg ?_
    refine xs rfl rfl ?_
    refine nl ?_
    (repeat first | refine et ?_ | refine eb ?_)
    (repeat refine sq ?_)
    refine ev_blk ?_
    (repeat refine sq ?_)
    refine ev_loop (fun i : Nat × Int => (⟨[(1, pbV 1 0), (3, .p false [.rt 101]), (4, iV i.2)], [(1, 30, [.c (iC h.num), .c (iC h.base), .c (iC h.time), .c (marks h.seen)])], [(101, 2, 1, (([h.num, h.base, h.time] ++ seenRow h.seen i.1).map fun x => [iC x]))], []⟩ : St)) (fun i => i.1 ≤ 4 ∧ i.2 = (i.1 : Int) + 2) (fun i => 4 - i.1) (0, 2) [(101, 16)] (⟨by simp, rfl⟩) ⟨by (repeat first | exact trivial | refine ⟨rfl, ?_⟩), by (repeat first | exact trivial | refine ⟨rfl, ?_⟩), ⟨⟨_, rfl, by rfl⟩, trivial⟩, by (repeat first | exact trivial | refine ⟨⟨_, rfl, rfl⟩, ?_⟩), rfl⟩ ?_
    intro i hp
    obtain ⟨k, z⟩ := i
    have hp : k ≤ 4 ∧ z = (k : Int) + 2 := hp
    obtain ⟨p0, p1⟩ := hp
    show Ev _ _ _ _ (⟨[(1, pbV 1 0), (3, .p false [.rt 101]), (4, iV z)], [(1, 30, [.c (iC h.num), .c (iC h.base), .c (iC h.time), .c (marks h.seen)])], [(101, 2, 1, (([h.num, h.base, h.time] ++ seenRow h.seen k).map fun x => [iC x]))], []⟩ : St)
    (repeat refine sq ?_)
    refine rg ?_
    refine xm rfl rfl ?_
    refine xb ttOk rfl rfl ?_
    refine nl ?_
    (repeat first | refine et ?_ | refine eb ?_)
    (repeat refine sq ?_)
    refine ev_cond rfl (fun h2 => ?_) (fun h2 => ?_)
    · try have d2 := of_decide_eq_true h2
      (repeat refine sq ?_)
      refine ev_skip ?_
      (repeat first | refine et ?_ | refine eb ?_)
      (repeat refine sq ?_)
      refine ev_blk ?_
      (repeat refine sq ?_)
      refine rg ?_
      refine xf ttOk rfl rfl ?_
      refine xl ttOk rfl rfl ?_
      refine xm rfl rfl ?_
      refine evl_call (nm := 24) (cf rfl) (c_MarkOf2 h.seen z hh) (rs_of rfl) rfl rfl rfl ?_
      refine evl_e (e_alloc ttOk rfl rfl rfl rfl) ?_
      refine xst ttOk rfl ?_ rfl
      refine nl ?_
      (repeat first | refine et ?_ | refine eb ?_)
      (repeat refine sq ?_)
      have hsr := headRow_next h k
      refine rg ?_
      refine xm rfl rfl ?_
      refine xf ttOk rfl rfl ?_
      refine xl ttOk rfl rfl ?_
      refine xf ttOk rfl rfl ?_
      refine xl ttOk rfl rfl ?_
      refine evl_e (e_lit ttOk rfl rfl rfl) ?_
      refine evl_e (e_app ttOk rfl rfl rfl rfl rfl rfl rfl (by simp [seenRow_len]; omega) rfl rfl) ?_
      refine xs rfl rfl ?_
      refine nl ?_
      (repeat first | refine et ?_ | refine eb ?_)
      (repeat refine sq ?_)
      refine rg ?_
      refine xm rfl rfl ?_
      refine xa rfl rfl rfl (by omega) rfl ?_
      refine xs rfl rfl ?_
      refine nl ?_
      (repeat first | refine et ?_ | refine eb ?_)
      (repeat first | refine et ?_ | refine eb ?_)
      refine eve_round (k + 1, _) [(101, 31)] ?hp ⟨by (repeat first | exact trivial | refine ⟨rfl, ?_⟩), by (repeat first | exact trivial | refine ⟨rfl, ?_⟩), ⟨⟨_, rfl, by rw [show (2 : Int) + k = z by omega] at hsr; exact hsr⟩, trivial⟩, by (repeat first | exact trivial | refine ⟨⟨_, rfl, rfl⟩, ?_⟩), rfl⟩
      case hp => exact ⟨⟨by omega, by omega⟩, by omega⟩
    · try have d2 := of_decide_eq_false h2
      (repeat refine sq ?_)
      refine ev_exit ?_
      (repeat first | refine evx_then ?_ | refine evx_hit ?_ | refine evx_miss rfl ?_)
      (repeat first | refine et ?_ | refine eb ?_)
      (repeat refine sq ?_)
      refine rg ?_
      refine xm rfl rfl ?_
      refine xf ttOk rfl rfl ?_
      refine xl ttOk rfl rfl ?_
      refine xf ttOk rfl rfl ?_
      refine xl ttOk rfl rfl ?_
      refine evl_e (e_lit ttOk rfl rfl rfl) ?_
      refine evl_e (e_app ttOk rfl rfl rfl rfl rfl rfl rfl (by simp [seenRow_len]; omega) rfl rfl) ?_
      refine xs rfl rfl ?_
      refine nl ?_
      (repeat first | refine et ?_ | refine eb ?_)
      (repeat refine sq ?_)
      refine ev_ret ?_
      (repeat first | refine evr_then ?_ | refine evr_blk ?_)
      refine ret_pure' ttOk rfl rfl ?_
      obtain rfl : k = 4 := by omega
      rw [show headRowF h = [h.num, h.base, h.time] ++ seenRow h.seen 4 ++ [h.num, h.num] by simp only [headRowF, h1]; rfl]; simp
theorem c_NewKept  : Pure Tryz.prog 63 [] [many' (twoR (newKeptF))] := by
  refine pure_intro (N := 5) Tryz.func63 rfl rfl rfl rfl (fun H w => ?_)
  (repeat refine sq ?_)
  refine rg ?_
  refine evl_e (e_alloc ttOk rfl rfl rfl rfl) ?_
  refine nl ?_
  (repeat first | refine et ?_ | refine eb ?_)
  (repeat refine sq ?_)
  refine rg ?_
  refine evl_call (nm := 1) (cf rfl) (c_NewTwo 22) (rs_of rfl) rfl rfl rfl ?_
  refine xo (q_build ttOk rfl) rfl ?_
  refine evl_nilc 2 3 rfl rfl ?_
  refine evl_call (nm := 3) (cf rfl) (c_HeadRow noHead) (rs_of rfl) rfl rfl rfl ?_
  refine evl_call (nm := 4) (cf rfl) (c_MendedAt (newTwoF 22) 0 (headRowF noHead)) (rs_of rfl) rfl rfl rfl ?_
  refine xst ttOk rfl ?_ rfl
  refine nl ?_
  (repeat first | refine et ?_ | refine eb ?_)
  (repeat refine sq ?_)
  refine ev_ret ?_
  (repeat first | refine evr_then ?_ | refine evr_blk ?_)
  refine ret_pure' ttOk rfl rfl ?_
  rfl
theorem c_NewLog  : Pure Tryz.prog 13 [] [many' (logR newLogF)] := by
  refine pure_intro (N := 3) Tryz.func13 rfl rfl rfl rfl (fun H w => ?_)
  (repeat refine sq ?_)
  refine rg ?_
  refine evl_e (e_alloc ttOk rfl rfl rfl rfl) ?_
  refine nl ?_
  (repeat first | refine et ?_ | refine eb ?_)
  (repeat refine sq ?_)
  refine rg ?_
  refine evl_call (nm := 1) (cf rfl) (c_NewKept) (rs_of rfl) rfl rfl rfl ?_
  refine xo (q_build ttOk rfl) rfl ?_
  refine xst ttOk rfl ?_ rfl
  refine nl ?_
  (repeat first | refine et ?_ | refine eb ?_)
  (repeat refine sq ?_)
  refine ev_ret ?_
  (repeat first | refine evr_then ?_ | refine evr_blk ?_)
  refine ret_pureN ttOk rfl rfl ?_
  simp [RpLe, L2, RcLe, newLogF, noHead]
theorem c_NewKept'  : Pure Tryz.prog 64 [] [many' (twoR (newKeptF))] := by
  refine pure_intro (N := 5) Tryz.func64 rfl rfl rfl rfl (fun H w => ?_)
  (repeat refine sq ?_)
  refine rg ?_
  refine evl_e (e_alloc ttOk rfl rfl rfl rfl) ?_
  refine nl ?_
  (repeat first | refine et ?_ | refine eb ?_)
  (repeat refine sq ?_)
  refine rg ?_
  refine evl_call (nm := 1) (cf rfl) (c_NewTwo' 22) (rs_of rfl) rfl rfl rfl ?_
  refine xo (q_build ttOk rfl) rfl ?_
  refine evl_nilc 2 3 rfl rfl ?_
  refine evl_call (nm := 3) (cf rfl) (c_HeadRow' noHead) (rs_of rfl) rfl rfl rfl ?_
  refine evl_call (nm := 4) (cf rfl) (c_MendedAt' (newTwoF 22) 0 (headRowF noHead)) (rs_of rfl) rfl rfl rfl ?_
  refine xst ttOk rfl ?_ rfl
  refine nl ?_
  (repeat first | refine et ?_ | refine eb ?_)
  (repeat refine sq ?_)
  refine ev_ret ?_
  (repeat first | refine evr_then ?_ | refine evr_blk ?_)
  refine ret_pure' ttOk rfl rfl ?_
  rfl
theorem c_NewLog'  : Pure Tryz.prog 14 [] [many' (logR newLogF)] := by
  refine pure_intro (N := 3) Tryz.func14 rfl rfl rfl rfl (fun H w => ?_)
  (repeat refine sq ?_)
  refine rg ?_
  refine evl_e (e_alloc ttOk rfl rfl rfl rfl) ?_
  refine nl ?_
  (repeat first | refine et ?_ | refine eb ?_)
  (repeat refine sq ?_)
  refine rg ?_
  refine evl_call (nm := 1) (cf rfl) (c_NewKept') (rs_of rfl) rfl rfl rfl ?_
  refine xo (q_build ttOk rfl) rfl ?_
  refine xst ttOk rfl ?_ rfl
  refine nl ?_
  (repeat first | refine et ?_ | refine eb ?_)
  (repeat refine sq ?_)
  refine ev_ret ?_
  (repeat first | refine evr_then ?_ | refine evr_blk ?_)
  refine ret_pureN ttOk rfl rfl ?_
  simp [RpLe, L2, RcLe, newLogF, noHead]

end Go.Proofs.YtpbhcdgdabfhfaaGreat
