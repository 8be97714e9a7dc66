/- Walks of functions of the program, printed by a program of the prover. -/
import Derived.Test.YtpbhcdgdabfhfaaGreatF10
namespace Go.Proofs.YtpbhcdgdabfhfaaGreat
open Go.ChangeShapes Go.WideShapes Go.ChangeAt Go.RowKit
set_option linter.unusedVariables false
set_option linter.unusedSimpArgs false
set_option maxHeartbeats 1000000
set_option maxRecDepth 100000
attribute [local irreducible] EvL Ev EvE Quiet Eff Pure RDk RDb RDo
theorem rs_sub {S : St} {x : Operand} {r n k j ty : Nat} {l : List (List C)} {cs : List C} {y : C} (hx : opv S.T x = some (.p false [.sub r n k j])) (hr : lk S.R r = some (ty, n, l)) (hk : l[k]? = some cs) (hj : cs[j]? = some y) : RsA S [x] [(false, [y])] := ⟨⟨_, hx, ⟨ty, l, cs, hr, hk, hj⟩, trivial⟩, trivial⟩
theorem get_map {α β : Type} {f : α → β} {L : List α} {k : Nat} (hk : k < L.length) : (L.map f)[k]? = some (f L[k]) := by rw [List.getElem?_map, List.getElem?_eq_getElem hk]; rfl
def headStep (x : Int) (acc : Head × Bool) (row : List Int) : Head × Bool := if (rowHeadF row).isSome = true ∧ ((rowHeadF row).getD noHead).num % 2 = x ∧ (acc.2 = false ∨ ((rowHeadF row).getD noHead).num > acc.1.num) then ((rowHeadF row).getD noHead, true) else acc
def headUp (t : Two) : Nat → Head × Bool
  | 0 => (noHead, false)
  | k + 1 => (rightF t k).foldl (headStep k) (headUp t k)
def headIn (t : Two) : Head × Bool := if keptOk t then headUp t 2 else (noHead, false)
theorem rowHead_nn {l : List Int} (h : (rowHeadF l).isSome = true) : 0 ≤ ((rowHeadF l).getD noHead).num := by
  unfold rowHeadF at *
  split at h
  · rename_i hh
    rw [if_pos hh]
    have := hh.2.1
    simp only [headOk, inB, Bool.and_eq_true, decide_eq_true_eq] at this
    exact this.2.1.1
  · cases h
theorem rightF_len (t : Two) (x : Int) : (rightF t x).length ≤ 2 := by
  unfold rightF rightOf
  split
  · cases uns (readF t.a x) <;> cases uns (readF t.b x) <;> simp
    split <;> simp
  · simp
theorem fold_next {α β : Type} {f : α → β → α} {a : α} {l : List β} {j : Nat} {s s' : α} (hj : j < l.length) (h : s = (l.take j).foldl f a) (h2 : s' = f s l[j]) : s' = (l.take (j + 1)).foldl f a := by
  rw [List.take_succ_eq_append_getElem hj, List.foldl_append, ← h, h2]; rfl
theorem fold_all {α β : Type} {f : α → β → α} {a : α} {l : List β} {j : Nat} {s : α} (hj : ¬ j < l.length) (h : s = (l.take j).foldl f a) : s = l.foldl f a := by rw [h, List.take_of_length_le (by omega)]
theorem c_HeadIn (t : Two) : Pure Tryz.prog 115 [many (twoC t)] [many' (headR (headIn t).1), one' (RC.v (.bool (headIn t).2))] := by
  refine pure_intro (N := 59) Tryz.func115 rfl rfl rfl rfl (fun H w => ?_)
  (repeat refine sq ?_)
  refine rg ?_
  refine evl_e (e_box rfl rfl rfl rfl) ?_
  refine evl_e (e_alloc ttOk rfl rfl rfl rfl) ?_
  refine xs rfl rfl ?_
  refine nl ?_
  (repeat first | refine et ?_ | refine eb ?_)
  (repeat refine sq ?_)
  refine rg ?_
  refine xo (q_build ttOk rfl) rfl ?_
  refine evl_e (e_alloc ttOk rfl rfl rfl rfl) ?_
  refine xst ttOk rfl ?_ rfl
  refine nl ?_
  (repeat first | refine et ?_ | refine eb ?_)
  (repeat refine sq ?_)
  refine rg ?_
  refine xs rfl rfl ?_
  refine nl ?_
  (repeat first | refine et ?_ | refine eb ?_)
  (repeat refine sq ?_)
  refine rg ?_
  first | refine xo (q_load_pr ttOk rfl rfl rfl rfl (get_map (by omega)) rfl rfl) rfl ?_ | refine xl ttOk rfl rfl ?_
  refine evl_call (nm := 13) (cf rfl) (c_KeptOk ⟨⟨_, _⟩, ⟨_, _⟩⟩) (rs_of rfl) rfl rfl rfl ?_
  refine xo (q_not rfl) rfl ?_
  refine nl ?_
  (repeat first | refine et ?_ | refine eb ?_)
  (repeat refine sq ?_)
  refine ev_cond_n rfl (fun h1 => ?_) (fun h1 => ?_)
  · try have d1 := of_decide_eq_false h1
    try have hnn := rowHead_nn h1
    (repeat refine sq ?_)
    refine rg ?_
    first | refine xo (q_load_pr ttOk rfl rfl rfl rfl (get_map (by omega)) rfl rfl) rfl ?_ | refine xl ttOk rfl rfl ?_
    refine xst ttOk rfl ?_ rfl
    refine xs rfl rfl ?_
    refine nl ?_
    (repeat first | refine et ?_ | refine eb ?_)
    (repeat refine sq ?_)
    refine ev_ret ?_
    (repeat first | refine evr_then ?_ | refine evr_blk ?_)
    refine ret_pureN ttOk rfl rfl ?_
    rw [show headIn t = (noHead, false) by simp [headIn, show keptOk t = false from h1]]; simp [RpLe, L2, RcLe, noHead]
  · try have d1 := of_decide_eq_true h1
    try have hnn := rowHead_nn h1
    (repeat refine sq ?_)
    refine ev_skip ?_
    (repeat first | refine et ?_ | refine eb ?_)
    (repeat refine sq ?_)
    refine ev_adopt (b := 4) 3 101 156 3 rfl rfl rfl rfl rfl ?_
    refine rg ?_
    refine xs rfl rfl ?_
    refine nl ?_
    (repeat first | refine et ?_ | refine eb ?_)
    (repeat refine sq ?_)
    refine ev_blk ?_
    (repeat refine sq ?_)
    refine ev_loop (fun i : Nat × Head × Bool => (⟨[(6, iV i.1), (1, pbV 1 0), (2, pbV 2 0), (3, bV false), (4, pbV 4 0), (5, bV i.2.2)], [(4, 30, [.c (iC i.2.1.num), .c (iC i.2.1.base), .c (iC i.2.1.time), .rt 101]), (2, 30, [.c (iC 0), .c (iC 0), .c (iC 0), .c .nil]), (1, 27, [.c (rows t.a.kept), .c (writes t.a.wait), .c (rows t.b.kept), .c (writes t.b.wait)])], [(101, 156, 3, (i.2.1.seen.map markC))], []⟩ : St)) (fun i => i.1 ≤ 2 ∧ (i.2.1, i.2.2) = headUp t i.1) (fun i => 2 - i.1) (0, noHead, false) [] (⟨by simp, rfl⟩) ⟨by (repeat first | exact trivial | refine ⟨rfl, ?_⟩), by (repeat first | exact trivial | refine ⟨rfl, ?_⟩), ⟨⟨_, rfl, by rfl⟩, trivial⟩, by (repeat first | exact trivial | refine ⟨⟨_, rfl, rfl⟩, ?_⟩), rfl⟩ ?_
    intro i hp
    obtain ⟨k, best, fd⟩ := i
    have hp : k ≤ 2 ∧ (best, fd) = headUp t k := hp
    obtain ⟨p0, p1⟩ := hp
    show Ev _ _ _ _ (⟨[(6, iV k), (1, pbV 1 0), (2, pbV 2 0), (3, bV false), (4, pbV 4 0), (5, bV fd)], [(4, 30, [.c (iC best.num), .c (iC best.base), .c (iC best.time), .rt 101]), (2, 30, [.c (iC 0), .c (iC 0), .c (iC 0), .c .nil]), (1, 27, [.c (rows t.a.kept), .c (writes t.a.wait), .c (rows t.b.kept), .c (writes t.b.wait)])], [(101, 156, 3, (best.seen.map markC))], []⟩ : St)
    (repeat refine sq ?_)
    refine rg ?_
    refine xm rfl rfl ?_
    refine xb ttOk rfl rfl ?_
    refine nl ?_
    (repeat first | refine et ?_ | refine eb ?_)
    (repeat refine sq ?_)
    refine ev_cond rfl (fun h2 => ?_) (fun h2 => ?_)
    · try have d2 := of_decide_eq_true h2
      try have hnn := rowHead_nn h2
      (repeat refine sq ?_)
      refine ev_skip ?_
      (repeat first | refine et ?_ | refine eb ?_)
      (repeat refine sq ?_)
      refine ev_blk ?_
      (repeat refine sq ?_)
      refine rg ?_
      first | refine xo (q_load_pr ttOk rfl rfl rfl rfl (get_map (by omega)) rfl rfl) rfl ?_ | refine xl ttOk rfl rfl ?_
      refine xm rfl rfl ?_
      refine evl_call (nm := 22) (cf rfl) (c_RightAt t _) (rs_of rfl) rfl rfl rfl ?_
      refine xs rfl rfl ?_
      refine nl ?_
      (repeat first | refine et ?_ | refine eb ?_)
      (repeat refine sq ?_)
      have hrl := rightF_len t k
      refine rg ?_
      refine xs rfl rfl ?_
      refine nl ?_
      (repeat first | refine et ?_ | refine eb ?_)
      (repeat refine sq ?_)
      refine ev_blk ?_
      (repeat refine sq ?_)
      refine ev_loop (fun i : Nat × Head × Bool => (⟨[(8, iV i.1), (7, .p false [.rt 102]), (6, iV k), (1, pbV 1 0), (2, pbV 2 0), (3, bV false), (4, pbV 4 0), (5, bV i.2.2)], [(4, 30, [.c (iC i.2.1.num), .c (iC i.2.1.base), .c (iC i.2.1.time), .rt 101]), (2, 30, [.c (iC 0), .c (iC 0), .c (iC 0), .c .nil]), (1, 27, [.c (rows t.a.kept), .c (writes t.a.wait), .c (rows t.b.kept), .c (writes t.b.wait)])], [(101, 156, 3, (i.2.1.seen.map markC)), (102, 80, 1, ((rightF t k).map fun r => [ints r]))], []⟩ : St)) (fun i => i.1 ≤ (rightF t k).length ∧ (i.2.1, i.2.2) = ((rightF t k).take i.1).foldl (headStep k) (best, fd)) (fun i => (rightF t k).length - i.1) (0, best, fd) [(102, 22)] (⟨by simp, rfl⟩) ⟨by (repeat first | exact trivial | refine ⟨rfl, ?_⟩), by (repeat first | exact trivial | refine ⟨rfl, ?_⟩), ⟨⟨_, rfl, by rfl⟩, ⟨_, rfl, by rfl⟩, trivial⟩, by (repeat first | exact trivial | refine ⟨⟨_, rfl, rfl⟩, ?_⟩), rfl⟩ ?_
      intro i hp
      obtain ⟨j, b2, f2⟩ := i
      have hp : j ≤ (rightF t k).length ∧ (b2, f2) = ((rightF t k).take j).foldl (headStep k) (best, fd) := hp
      obtain ⟨q0, q1⟩ := hp
      show Ev _ _ _ _ (⟨[(8, iV j), (7, .p false [.rt 102]), (6, iV k), (1, pbV 1 0), (2, pbV 2 0), (3, bV false), (4, pbV 4 0), (5, bV f2)], [(4, 30, [.c (iC b2.num), .c (iC b2.base), .c (iC b2.time), .rt 101]), (2, 30, [.c (iC 0), .c (iC 0), .c (iC 0), .c .nil]), (1, 27, [.c (rows t.a.kept), .c (writes t.a.wait), .c (rows t.b.kept), .c (writes t.b.wait)])], [(101, 156, 3, (b2.seen.map markC)), (102, 80, 1, ((rightF t k).map fun r => [ints r]))], []⟩ : St)
      (repeat refine sq ?_)
      refine rg ?_
      refine xm rfl rfl ?_
      refine xm rfl rfl ?_
      refine xo (q_len_rtm ttOk rfl rfl rfl) rfl ?_
      refine xb ttOk rfl rfl ?_
      refine nl ?_
      (repeat first | refine et ?_ | refine eb ?_)
      (repeat refine sq ?_)
      refine ev_cond rfl (fun h3 => ?_) (fun h3 => ?_)
      · try have d3 := of_decide_eq_true h3
        try have hnn := rowHead_nn h3
        (repeat refine sq ?_)
        refine ev_skip ?_
        (repeat first | refine et ?_ | refine eb ?_)
        (repeat refine sq ?_)
        refine ev_blk ?_
        (repeat refine sq ?_)
        refine rg ?_
        refine xm rfl rfl ?_
        refine xm rfl rfl ?_
        refine xo (q_ix_rt (m := j) ttOk rfl rfl rfl rfl rfl rfl (by simp; omega)) rfl ?_
        first | refine xo (q_load_pr ttOk rfl rfl rfl rfl (get_map (by omega)) rfl rfl) rfl ?_ | refine xl ttOk rfl rfl ?_
        refine evl_call (nm := 34) (cf rfl) (c_RowHead _) (rs_sub rfl rfl (get_map (by omega)) rfl) rfl rfl rfl ?_
        refine xm rfl rfl ?_
        refine xo (q_ext rfl) rfl ?_
        refine xo (q_ext rfl) rfl ?_
        refine evl_e (e_alloc ttOk rfl rfl rfl rfl) ?_
        refine xst ttOk rfl ?_ rfl
        refine xs rfl rfl ?_
        refine nl ?_
        (repeat first | refine et ?_ | refine eb ?_)
        (repeat refine sq ?_)
        refine rg ?_
        refine xm rfl rfl ?_
        refine xm rfl rfl ?_
        refine evl_part rfl rfl (fun h4 => ?_) (fun h4 => ?_)
        · try have d4 := of_decide_eq_true h4
          try have hnn := rowHead_nn h4
          refine go h4 rfl rfl (q_fieldAddr ttOk rfl) rfl ?_
          first | refine go h4 rfl rfl (q_load_pr ttOk rfl rfl rfl rfl (get_map (by omega)) rfl rfl) rfl ?_ | refine go h4 rfl rfl (q_load ttOk rfl) rfl ?_
          first | refine go h4 rfl rfl (q_rem_pos rfl rfl (by omega)) rfl ?_ | refine go h4 rfl rfl (q_rem rfl rfl (by omega)) rfl ?_
          refine gm h4 rfl rfl rfl rfl ?_
          refine go h4 rfl rfl (q_bin ttOk rfl) rfl ?_
          refine xo (q_pick_t rfl h4 rfl) rfl ?_
          refine xm rfl rfl ?_
          refine evl_part rfl rfl (fun h5 => ?_) (fun h5 => ?_)
          · try have d5 := of_decide_eq_true h5
            try have hnn := rowHead_nn h5
            refine gm h5 rfl rfl rfl rfl ?_
            refine go h5 rfl rfl (q_not rfl) rfl ?_
            refine gm h5 rfl rfl rfl rfl ?_
            refine evl_partn rfl rfl (fun h6 => ?_) (fun h6 => ?_)
            · try have d6 := of_decide_eq_false h6
              try have hnn := rowHead_nn h6
              refine gn (nt h6) rfl rfl rfl ?_
              refine gn (nt h6) rfl rfl rfl ?_
              refine gn (nt h6) rfl rfl rfl ?_
              refine gn (nt h6) rfl rfl rfl ?_
              refine gn (nt h6) rfl rfl rfl ?_
              refine go h5 rfl rfl (q_pick_t rfl (nt h6) rfl) rfl ?_
              refine xo (q_pick_t rfl h5 rfl) rfl ?_
              refine nl ?_
              (repeat first | refine et ?_ | refine eb ?_)
              (repeat refine sq ?_)
              refine ev_cond_kt rfl rfl ?_
              (repeat refine sq ?_)
              refine rg ?_
              first | refine xo (q_load_pr ttOk rfl rfl rfl rfl (get_map (by omega)) rfl rfl) rfl ?_ | refine xl ttOk rfl rfl ?_
              refine xst ttOk rfl ?_ rfl
              refine nl ?_
              (repeat first | refine et ?_ | refine eb ?_)
              (repeat refine sq ?_)
              refine rg ?_
              refine xs rfl rfl ?_
              refine nl ?_
              (repeat first | refine et ?_ | refine eb ?_)
              (repeat refine sq ?_)
              refine rg ?_
              refine xm rfl rfl ?_
              refine xa rfl rfl rfl (by omega) rfl ?_
              refine xs rfl rfl ?_
              refine nl ?_
              (repeat first | refine et ?_ | refine eb ?_)
              (repeat first | refine et ?_ | refine eb ?_)
              refine eve_round (j + 1, (rowHeadF (rightF t k)[j]).getD noHead, true) [(101, 34)] ?hp ⟨by (repeat first | exact trivial | refine ⟨rfl, ?_⟩), by (repeat first | exact trivial | refine ⟨rfl, ?_⟩), ⟨⟨_, rfl, rfl⟩, ⟨_, rfl, rfl⟩, trivial⟩, by (repeat first | exact trivial | refine ⟨⟨_, rfl, rfl⟩, ?_⟩), rfl⟩
              case hp => exact ⟨⟨by omega, fold_next (by omega) q1 (by simp_all [headStep] <;> (intros; omega))⟩, by omega⟩
            · try have d6 := of_decide_eq_true h6
              try have hnn := rowHead_nn h6
              refine go (nf h6) rfl rfl (q_fieldAddr ttOk rfl) rfl ?_
              first | refine go (nf h6) rfl rfl (q_load_pr ttOk rfl rfl rfl rfl (get_map (by omega)) rfl rfl) rfl ?_ | refine go (nf h6) rfl rfl (q_load ttOk rfl) rfl ?_
              refine go (nf h6) rfl rfl (q_fieldAddr ttOk rfl) rfl ?_
              first | refine go (nf h6) rfl rfl (q_load_pr ttOk rfl rfl rfl rfl (get_map (by omega)) rfl rfl) rfl ?_ | refine go (nf h6) rfl rfl (q_load ttOk rfl) rfl ?_
              refine go (nf h6) rfl rfl (q_bin ttOk rfl) rfl ?_
              refine go h5 rfl rfl (q_pick_f rfl (nf h6) rfl) rfl ?_
              refine xo (q_pick_t rfl h5 rfl) rfl ?_
              refine nl ?_
              (repeat first | refine et ?_ | refine eb ?_)
              (repeat refine sq ?_)
              refine ev_cond rfl (fun h7 => ?_) (fun h7 => ?_)
              · try have d7 := of_decide_eq_true h7
                try have hnn := rowHead_nn h7
                (repeat refine sq ?_)
                refine rg ?_
                first | refine xo (q_load_pr ttOk rfl rfl rfl rfl (get_map (by omega)) rfl rfl) rfl ?_ | refine xl ttOk rfl rfl ?_
                refine xst ttOk rfl ?_ rfl
                refine nl ?_
                (repeat first | refine et ?_ | refine eb ?_)
                (repeat refine sq ?_)
                refine rg ?_
                refine xs rfl rfl ?_
                refine nl ?_
                (repeat first | refine et ?_ | refine eb ?_)
                (repeat refine sq ?_)
                refine rg ?_
                refine xm rfl rfl ?_
                refine xa rfl rfl rfl (by omega) rfl ?_
                refine xs rfl rfl ?_
                refine nl ?_
                (repeat first | refine et ?_ | refine eb ?_)
                (repeat first | refine et ?_ | refine eb ?_)
                refine eve_round (j + 1, (rowHeadF (rightF t k)[j]).getD noHead, true) [(101, 34)] ?hp ⟨by (repeat first | exact trivial | refine ⟨rfl, ?_⟩), by (repeat first | exact trivial | refine ⟨rfl, ?_⟩), ⟨⟨_, rfl, rfl⟩, ⟨_, rfl, rfl⟩, trivial⟩, by (repeat first | exact trivial | refine ⟨⟨_, rfl, rfl⟩, ?_⟩), rfl⟩
                case hp => exact ⟨⟨by omega, fold_next (by omega) q1 (by simp_all [headStep] <;> (intros; omega))⟩, by omega⟩
              · try have d7 := of_decide_eq_false h7
                try have hnn := rowHead_nn h7
                (repeat refine sq ?_)
                refine ev_skip ?_
                (repeat first | refine et ?_ | refine eb ?_)
                (repeat refine sq ?_)
                refine rg ?_
                refine xm rfl rfl ?_
                refine xa rfl rfl rfl (by omega) rfl ?_
                refine xs rfl rfl ?_
                refine nl ?_
                (repeat first | refine et ?_ | refine eb ?_)
                (repeat first | refine et ?_ | refine eb ?_)
                refine eve_round (j + 1, b2, f2) [] ?hp ⟨by (repeat first | exact trivial | refine ⟨rfl, ?_⟩), by (repeat first | exact trivial | refine ⟨rfl, ?_⟩), ⟨⟨_, rfl, rfl⟩, ⟨_, rfl, rfl⟩, trivial⟩, by (repeat first | exact trivial | refine ⟨⟨_, rfl, rfl⟩, ?_⟩), rfl⟩
                case hp => exact ⟨⟨by omega, fold_next (by omega) q1 (by simp_all [headStep] <;> (intros; omega))⟩, by omega⟩
          · try have d5 := of_decide_eq_false h5
            try have hnn := rowHead_nn h5
            refine gn h5 rfl rfl rfl ?_
            refine gn h5 rfl rfl rfl ?_
            refine gn h5 rfl rfl rfl ?_
            refine gu rfl rfl rfl ?_
            refine gu rfl rfl rfl ?_
            refine gu rfl rfl rfl ?_
            refine gu rfl rfl rfl ?_
            refine gu rfl rfl rfl ?_
            refine gn h5 rfl rfl rfl ?_
            refine xo (q_pick_f rfl h5 rfl) rfl ?_
            refine nl ?_
            (repeat first | refine et ?_ | refine eb ?_)
            (repeat refine sq ?_)
            refine ev_cond_kf rfl rfl ?_
            (repeat refine sq ?_)
            refine ev_skip ?_
            (repeat first | refine et ?_ | refine eb ?_)
            (repeat refine sq ?_)
            refine rg ?_
            refine xm rfl rfl ?_
            refine xa rfl rfl rfl (by omega) rfl ?_
            refine xs rfl rfl ?_
            refine nl ?_
            (repeat first | refine et ?_ | refine eb ?_)
            (repeat first | refine et ?_ | refine eb ?_)
            refine eve_round (j + 1, b2, f2) [] ?hp ⟨by (repeat first | exact trivial | refine ⟨rfl, ?_⟩), by (repeat first | exact trivial | refine ⟨rfl, ?_⟩), ⟨⟨_, rfl, rfl⟩, ⟨_, rfl, rfl⟩, trivial⟩, by (repeat first | exact trivial | refine ⟨⟨_, rfl, rfl⟩, ?_⟩), rfl⟩
            case hp => exact ⟨⟨by omega, fold_next (by omega) q1 (by simp_all [headStep] <;> (intros; omega))⟩, by omega⟩
        · try have d4 := of_decide_eq_false h4
          try have hnn := rowHead_nn h4
          refine gn h4 rfl rfl rfl ?_
          refine gn h4 rfl rfl rfl ?_
          refine gn h4 rfl rfl rfl ?_
          refine gn h4 rfl rfl rfl ?_
          refine gn h4 rfl rfl rfl ?_
          refine xo (q_pick_f rfl h4 rfl) rfl ?_
          refine xm rfl rfl ?_
          refine gn rfl rfl rfl rfl ?_
          refine gn rfl rfl rfl rfl ?_
          refine gn rfl rfl rfl rfl ?_
          refine gu rfl rfl rfl ?_
          refine gu rfl rfl rfl ?_
          refine gu rfl rfl rfl ?_
          refine gu rfl rfl rfl ?_
          refine gu rfl rfl rfl ?_
          refine gn rfl rfl rfl rfl ?_
          refine xo (q_pick_f rfl rfl rfl) rfl ?_
          refine nl ?_
          (repeat first | refine et ?_ | refine eb ?_)
          (repeat refine sq ?_)
          refine ev_cond_kf rfl rfl ?_
          (repeat refine sq ?_)
          refine ev_skip ?_
          (repeat first | refine et ?_ | refine eb ?_)
          (repeat refine sq ?_)
          refine rg ?_
          refine xm rfl rfl ?_
          refine xa rfl rfl rfl (by omega) rfl ?_
          refine xs rfl rfl ?_
          refine nl ?_
          (repeat first | refine et ?_ | refine eb ?_)
          (repeat first | refine et ?_ | refine eb ?_)
          refine eve_round (j + 1, b2, f2) [] ?hp ⟨by (repeat first | exact trivial | refine ⟨rfl, ?_⟩), by (repeat first | exact trivial | refine ⟨rfl, ?_⟩), ⟨⟨_, rfl, rfl⟩, ⟨_, rfl, rfl⟩, trivial⟩, by (repeat first | exact trivial | refine ⟨⟨_, rfl, rfl⟩, ?_⟩), rfl⟩
          case hp => exact ⟨⟨by omega, fold_next (by omega) q1 (by simp_all [headStep] <;> (intros; omega))⟩, by omega⟩
      · try have d3 := of_decide_eq_false h3
        try have hnn := rowHead_nn h3
        (repeat refine sq ?_)
        refine ev_exit ?_
        (repeat first | refine evx_then ?_ | refine evx_hit ?_ | refine evx_miss rfl ?_)
        (repeat first | refine et ?_ | refine eb ?_)
        (repeat refine sq ?_)
        refine rg ?_
        refine xm rfl rfl ?_
        refine xa rfl rfl rfl (by omega) rfl ?_
        refine xs rfl rfl ?_
        refine nl ?_
        (repeat first | refine et ?_ | refine eb ?_)
        (repeat first | refine et ?_ | refine eb ?_)
        refine eve_round (k + 1, _, _) [] ?hp ⟨by (repeat first | exact trivial | refine ⟨rfl, ?_⟩), by (repeat first | exact trivial | refine ⟨rfl, ?_⟩), ⟨⟨_, rfl, by rfl⟩, trivial⟩, by (repeat first | exact trivial | refine ⟨⟨_, rfl, rfl⟩, ?_⟩), rfl⟩
        case hp => exact ⟨⟨by omega, (fold_all (by omega) q1).trans (show List.foldl _ (best, fd) _ = (rightF t k).foldl (headStep k) (headUp t k) by rw [p1])⟩, by omega⟩
    · try have d2 := of_decide_eq_false h2
      try have hnn := rowHead_nn h2
      (repeat refine sq ?_)
      refine ev_exit ?_
      (repeat first | refine evx_then ?_ | refine evx_hit ?_ | refine evx_miss rfl ?_)
      (repeat first | refine et ?_ | refine eb ?_)
      (repeat refine sq ?_)
      refine rg ?_
      first | refine xo (q_load_pr ttOk rfl rfl rfl rfl (get_map (by omega)) rfl rfl) rfl ?_ | refine xl ttOk rfl rfl ?_
      refine xm rfl rfl ?_
      refine xst ttOk rfl ?_ rfl
      refine xs rfl rfl ?_
      refine nl ?_
      (repeat first | refine et ?_ | refine eb ?_)
      (repeat refine sq ?_)
      refine ev_ret ?_
      (repeat first | refine evr_then ?_ | refine evr_blk ?_)
      refine ret_pure' ttOk rfl rfl ?_
      obtain rfl : k = 2 := by omega
      rw [show headIn t = (best, fd) by rw [p1]; simp [headIn, show keptOk t = true from h1]]
theorem c_HeadIn' (t : Two) : Pure Tryz.prog 122 [many (twoC t)] [many' (headR (headIn t).1), one' (RC.v (.bool (headIn t).2))] := by
  refine pure_intro (N := 56) Tryz.func122 rfl rfl rfl rfl (fun H w => ?_)
  (repeat refine sq ?_)
  refine rg ?_
  refine evl_e (e_box rfl rfl rfl rfl) ?_
  refine evl_e (e_alloc ttOk rfl rfl rfl rfl) ?_
  refine xs rfl rfl ?_
  refine nl ?_
  (repeat first | refine et ?_ | refine eb ?_)
  (repeat refine sq ?_)
  refine rg ?_
  first | refine xo (q_load_pr ttOk rfl rfl rfl rfl (get_map (by omega)) rfl rfl) rfl ?_ | refine xl ttOk rfl rfl ?_
  refine evl_call (nm := 12) (cf rfl) (c_KeptOk' ⟨⟨_, _⟩, ⟨_, _⟩⟩) (rs_of rfl) rfl rfl rfl ?_
  refine xo (q_not rfl) rfl ?_
  refine nl ?_
  (repeat first | refine et ?_ | refine eb ?_)
  (repeat refine sq ?_)
  refine ev_cond_n rfl (fun h1 => ?_) (fun h1 => ?_)
  · try have d1 := of_decide_eq_false h1
    try have hnn := rowHead_nn h1
    (repeat refine sq ?_)
    refine rg ?_
    refine xo (q_build ttOk rfl) rfl ?_
    refine xst ttOk rfl ?_ rfl
    refine xs rfl rfl ?_
    refine nl ?_
    (repeat first | refine et ?_ | refine eb ?_)
    (repeat refine sq ?_)
    refine ev_ret ?_
    (repeat first | refine evr_then ?_ | refine evr_blk ?_)
    refine ret_pureN ttOk rfl rfl ?_
    rw [show headIn t = (noHead, false) by simp [headIn, show keptOk t = false from h1]]; simp [RpLe, L2, RcLe, noHead]
  · try have d1 := of_decide_eq_true h1
    try have hnn := rowHead_nn h1
    (repeat refine sq ?_)
    refine ev_skip ?_
    (repeat first | refine et ?_ | refine eb ?_)
    (repeat refine sq ?_)
    refine rg ?_
    refine xo (q_build ttOk rfl) rfl ?_
    refine evl_e (e_alloc ttOk rfl rfl rfl rfl) ?_
    refine xst ttOk rfl ?_ rfl
    refine xs rfl rfl ?_
    refine nl ?_
    (repeat first | refine et ?_ | refine eb ?_)
    (repeat refine sq ?_)
    refine ev_adopt (b := 4) 3 101 156 3 rfl rfl rfl rfl rfl ?_
    refine rg ?_
    refine xs rfl rfl ?_
    refine nl ?_
    (repeat first | refine et ?_ | refine eb ?_)
    (repeat refine sq ?_)
    refine ev_blk ?_
    (repeat refine sq ?_)
    refine ev_loop (fun i : Nat × Head × Bool => (⟨[(6, iV i.1), (1, pbV 1 0), (2, pbV 2 0), (3, bV false), (4, pbV 4 0), (5, bV i.2.2)], [(4, 30, [.c (iC i.2.1.num), .c (iC i.2.1.base), .c (iC i.2.1.time), .rt 101]), (2, 30, [.c (iC 0), .c (iC 0), .c (iC 0), .c .nil]), (1, 27, [.c (rows t.a.kept), .c (writes t.a.wait), .c (rows t.b.kept), .c (writes t.b.wait)])], [(101, 156, 3, (i.2.1.seen.map markC))], []⟩ : St)) (fun i => i.1 ≤ 2 ∧ (i.2.1, i.2.2) = headUp t i.1) (fun i => 2 - i.1) (0, noHead, false) [] (⟨by simp, rfl⟩) ⟨by (repeat first | exact trivial | refine ⟨rfl, ?_⟩), by (repeat first | exact trivial | refine ⟨rfl, ?_⟩), ⟨⟨_, rfl, by rfl⟩, trivial⟩, by (repeat first | exact trivial | refine ⟨⟨_, rfl, rfl⟩, ?_⟩), rfl⟩ ?_
    intro i hp
    obtain ⟨k, best, fd⟩ := i
    have hp : k ≤ 2 ∧ (best, fd) = headUp t k := hp
    obtain ⟨p0, p1⟩ := hp
    show Ev _ _ _ _ (⟨[(6, iV k), (1, pbV 1 0), (2, pbV 2 0), (3, bV false), (4, pbV 4 0), (5, bV fd)], [(4, 30, [.c (iC best.num), .c (iC best.base), .c (iC best.time), .rt 101]), (2, 30, [.c (iC 0), .c (iC 0), .c (iC 0), .c .nil]), (1, 27, [.c (rows t.a.kept), .c (writes t.a.wait), .c (rows t.b.kept), .c (writes t.b.wait)])], [(101, 156, 3, (best.seen.map markC))], []⟩ : St)
    (repeat refine sq ?_)
    refine rg ?_
    refine xm rfl rfl ?_
    refine xb ttOk rfl rfl ?_
    refine nl ?_
    (repeat first | refine et ?_ | refine eb ?_)
    (repeat refine sq ?_)
    refine ev_cond rfl (fun h2 => ?_) (fun h2 => ?_)
    · try have d2 := of_decide_eq_true h2
      try have hnn := rowHead_nn h2
      (repeat refine sq ?_)
      refine ev_skip ?_
      (repeat first | refine et ?_ | refine eb ?_)
      (repeat refine sq ?_)
      refine ev_blk ?_
      (repeat refine sq ?_)
      have hrl := rightF_len t k
      refine rg ?_
      first | refine xo (q_load_pr ttOk rfl rfl rfl rfl (get_map (by omega)) rfl rfl) rfl ?_ | refine xl ttOk rfl rfl ?_
      refine xm rfl rfl ?_
      refine evl_call (nm := 22) (cf rfl) (c_RightAt' t _) (rs_of rfl) rfl rfl rfl ?_
      refine xo (q_len_rtm ttOk rfl rfl rfl) rfl ?_
      refine xm rfl rfl ?_
      refine nl ?_
      (repeat first | refine et ?_ | refine eb ?_)
      (repeat refine sq ?_)
      refine ev_blk ?_
      (repeat refine sq ?_)
      refine ev_loop (fun i : Nat × Head × Bool => (⟨[(24, iV i.1), (22, .p false [.rt 102]), (23, iV (rightF t k).length), (6, iV k), (1, pbV 1 0), (2, pbV 2 0), (3, bV false), (4, pbV 4 0), (5, bV i.2.2)], [(4, 30, [.c (iC i.2.1.num), .c (iC i.2.1.base), .c (iC i.2.1.time), .rt 101]), (2, 30, [.c (iC 0), .c (iC 0), .c (iC 0), .c .nil]), (1, 27, [.c (rows t.a.kept), .c (writes t.a.wait), .c (rows t.b.kept), .c (writes t.b.wait)])], [(101, 156, 3, (i.2.1.seen.map markC)), (102, 80, 1, ((rightF t k).map fun r => [ints r]))], []⟩ : St)) (fun i => i.1 ≤ (rightF t k).length ∧ (i.2.1, i.2.2) = ((rightF t k).take i.1).foldl (headStep k) (best, fd)) (fun i => (rightF t k).length - i.1) (0, best, fd) [(102, 22)] (⟨by simp, rfl⟩) ⟨by (repeat first | exact trivial | refine ⟨rfl, ?_⟩), by (repeat first | exact trivial | refine ⟨rfl, ?_⟩), ⟨⟨_, rfl, by rfl⟩, ⟨_, rfl, by rfl⟩, trivial⟩, by (repeat first | exact trivial | refine ⟨⟨_, rfl, rfl⟩, ?_⟩), rfl⟩ ?_
      intro i hp
      obtain ⟨j, b2, f2⟩ := i
      have hp : j ≤ (rightF t k).length ∧ (b2, f2) = ((rightF t k).take j).foldl (headStep k) (best, fd) := hp
      obtain ⟨q0, q1⟩ := hp
      show Ev _ _ _ _ (⟨[(24, iV j), (22, .p false [.rt 102]), (23, iV (rightF t k).length), (6, iV k), (1, pbV 1 0), (2, pbV 2 0), (3, bV false), (4, pbV 4 0), (5, bV f2)], [(4, 30, [.c (iC b2.num), .c (iC b2.base), .c (iC b2.time), .rt 101]), (2, 30, [.c (iC 0), .c (iC 0), .c (iC 0), .c .nil]), (1, 27, [.c (rows t.a.kept), .c (writes t.a.wait), .c (rows t.b.kept), .c (writes t.b.wait)])], [(101, 156, 3, (b2.seen.map markC)), (102, 80, 1, ((rightF t k).map fun r => [ints r]))], []⟩ : St)
      (repeat refine sq ?_)
      refine rg ?_
      refine xb ttOk rfl rfl ?_
      refine nl ?_
      (repeat first | refine et ?_ | refine eb ?_)
      (repeat refine sq ?_)
      refine ev_cond rfl (fun h3 => ?_) (fun h3 => ?_)
      · try have d3 := of_decide_eq_true h3
        try have hnn := rowHead_nn h3
        (repeat refine sq ?_)
        refine ev_skip ?_
        (repeat first | refine et ?_ | refine eb ?_)
        (repeat refine sq ?_)
        refine ev_blk ?_
        (repeat refine sq ?_)
        refine rg ?_
        refine xo (q_ix_rt (m := j) ttOk rfl rfl rfl rfl rfl rfl (by simp; omega)) rfl ?_
        first | refine xo (q_load_pr ttOk rfl rfl rfl rfl (get_map (by omega)) rfl rfl) rfl ?_ | refine xl ttOk rfl rfl ?_
        refine xs rfl rfl ?_
        refine nl ?_
        (repeat first | refine et ?_ | refine eb ?_)
        (repeat refine sq ?_)
        refine rg ?_
        refine xm rfl rfl ?_
        refine evl_call (nm := 30) (cf rfl) (c_RowHead' _) (rs_sub rfl rfl (get_map (by omega)) rfl) rfl rfl rfl ?_
        refine xm rfl rfl ?_
        refine xo (q_ext rfl) rfl ?_
        refine xo (q_ext rfl) rfl ?_
        refine evl_e (e_alloc ttOk rfl rfl rfl rfl) ?_
        refine xst ttOk rfl ?_ rfl
        refine xs rfl rfl ?_
        refine nl ?_
        (repeat first | refine et ?_ | refine eb ?_)
        (repeat refine sq ?_)
        refine rg ?_
        refine xm rfl rfl ?_
        refine xm rfl rfl ?_
        refine evl_part rfl rfl (fun h4 => ?_) (fun h4 => ?_)
        · try have d4 := of_decide_eq_true h4
          try have hnn := rowHead_nn h4
          refine go h4 rfl rfl (q_fieldAddr ttOk rfl) rfl ?_
          first | refine go h4 rfl rfl (q_load_pr ttOk rfl rfl rfl rfl (get_map (by omega)) rfl rfl) rfl ?_ | refine go h4 rfl rfl (q_load ttOk rfl) rfl ?_
          first | refine go h4 rfl rfl (q_rem_pos rfl rfl (by omega)) rfl ?_ | refine go h4 rfl rfl (q_rem rfl rfl (by omega)) rfl ?_
          refine gm h4 rfl rfl rfl rfl ?_
          refine go h4 rfl rfl (q_bin ttOk rfl) rfl ?_
          refine xo (q_pick_t rfl h4 rfl) rfl ?_
          refine xm rfl rfl ?_
          refine evl_part rfl rfl (fun h5 => ?_) (fun h5 => ?_)
          · try have d5 := of_decide_eq_true h5
            try have hnn := rowHead_nn h5
            refine gm h5 rfl rfl rfl rfl ?_
            refine go h5 rfl rfl (q_not rfl) rfl ?_
            refine gm h5 rfl rfl rfl rfl ?_
            refine evl_partn rfl rfl (fun h6 => ?_) (fun h6 => ?_)
            · try have d6 := of_decide_eq_false h6
              try have hnn := rowHead_nn h6
              refine gn (nt h6) rfl rfl rfl ?_
              refine gn (nt h6) rfl rfl rfl ?_
              refine gn (nt h6) rfl rfl rfl ?_
              refine gn (nt h6) rfl rfl rfl ?_
              refine gn (nt h6) rfl rfl rfl ?_
              refine go h5 rfl rfl (q_pick_t rfl (nt h6) rfl) rfl ?_
              refine xo (q_pick_t rfl h5 rfl) rfl ?_
              refine nl ?_
              (repeat first | refine et ?_ | refine eb ?_)
              (repeat refine sq ?_)
              refine ev_cond_kt rfl rfl ?_
              (repeat refine sq ?_)
              refine rg ?_
              first | refine xo (q_load_pr ttOk rfl rfl rfl rfl (get_map (by omega)) rfl rfl) rfl ?_ | refine xl ttOk rfl rfl ?_
              refine xst ttOk rfl ?_ rfl
              refine xs rfl rfl ?_
              refine nl ?_
              (repeat first | refine et ?_ | refine eb ?_)
              (repeat refine sq ?_)
              refine rg ?_
              refine xa rfl rfl rfl (by omega) rfl ?_
              refine xm rfl rfl ?_
              refine nl ?_
              (repeat first | refine et ?_ | refine eb ?_)
              (repeat first | refine et ?_ | refine eb ?_)
              refine eve_round (j + 1, (rowHeadF (rightF t k)[j]).getD noHead, true) [(101, 30)] ?hp ⟨by (repeat first | exact trivial | refine ⟨rfl, ?_⟩), by (repeat first | exact trivial | refine ⟨rfl, ?_⟩), ⟨⟨_, rfl, rfl⟩, ⟨_, rfl, rfl⟩, trivial⟩, by (repeat first | exact trivial | refine ⟨⟨_, rfl, rfl⟩, ?_⟩), rfl⟩
              case hp => exact ⟨⟨by omega, fold_next (by omega) q1 (by simp_all [headStep] <;> (intros; omega))⟩, by omega⟩
            · try have d6 := of_decide_eq_true h6
              try have hnn := rowHead_nn h6
              refine go (nf h6) rfl rfl (q_fieldAddr ttOk rfl) rfl ?_
              first | refine go (nf h6) rfl rfl (q_load_pr ttOk rfl rfl rfl rfl (get_map (by omega)) rfl rfl) rfl ?_ | refine go (nf h6) rfl rfl (q_load ttOk rfl) rfl ?_
              refine go (nf h6) rfl rfl (q_fieldAddr ttOk rfl) rfl ?_
              first | refine go (nf h6) rfl rfl (q_load_pr ttOk rfl rfl rfl rfl (get_map (by omega)) rfl rfl) rfl ?_ | refine go (nf h6) rfl rfl (q_load ttOk rfl) rfl ?_
              refine go (nf h6) rfl rfl (q_bin ttOk rfl) rfl ?_
              refine go h5 rfl rfl (q_pick_f rfl (nf h6) rfl) rfl ?_
              refine xo (q_pick_t rfl h5 rfl) rfl ?_
              refine nl ?_
              (repeat first | refine et ?_ | refine eb ?_)
              (repeat refine sq ?_)
              refine ev_cond rfl (fun h7 => ?_) (fun h7 => ?_)
              · try have d7 := of_decide_eq_true h7
                try have hnn := rowHead_nn h7
                (repeat refine sq ?_)
                refine rg ?_
                first | refine xo (q_load_pr ttOk rfl rfl rfl rfl (get_map (by omega)) rfl rfl) rfl ?_ | refine xl ttOk rfl rfl ?_
                refine xst ttOk rfl ?_ rfl
                refine xs rfl rfl ?_
                refine nl ?_
                (repeat first | refine et ?_ | refine eb ?_)
                (repeat refine sq ?_)
                refine rg ?_
                refine xa rfl rfl rfl (by omega) rfl ?_
                refine xm rfl rfl ?_
                refine nl ?_
                (repeat first | refine et ?_ | refine eb ?_)
                (repeat first | refine et ?_ | refine eb ?_)
                refine eve_round (j + 1, (rowHeadF (rightF t k)[j]).getD noHead, true) [(101, 30)] ?hp ⟨by (repeat first | exact trivial | refine ⟨rfl, ?_⟩), by (repeat first | exact trivial | refine ⟨rfl, ?_⟩), ⟨⟨_, rfl, rfl⟩, ⟨_, rfl, rfl⟩, trivial⟩, by (repeat first | exact trivial | refine ⟨⟨_, rfl, rfl⟩, ?_⟩), rfl⟩
                case hp => exact ⟨⟨by omega, fold_next (by omega) q1 (by simp_all [headStep] <;> (intros; omega))⟩, by omega⟩
              · try have d7 := of_decide_eq_false h7
                try have hnn := rowHead_nn h7
                (repeat refine sq ?_)
                refine ev_skip ?_
                (repeat first | refine et ?_ | refine eb ?_)
                (repeat refine sq ?_)
                refine rg ?_
                refine xa rfl rfl rfl (by omega) rfl ?_
                refine xm rfl rfl ?_
                refine nl ?_
                (repeat first | refine et ?_ | refine eb ?_)
                (repeat first | refine et ?_ | refine eb ?_)
                refine eve_round (j + 1, b2, f2) [] ?hp ⟨by (repeat first | exact trivial | refine ⟨rfl, ?_⟩), by (repeat first | exact trivial | refine ⟨rfl, ?_⟩), ⟨⟨_, rfl, rfl⟩, ⟨_, rfl, rfl⟩, trivial⟩, by (repeat first | exact trivial | refine ⟨⟨_, rfl, rfl⟩, ?_⟩), rfl⟩
                case hp => exact ⟨⟨by omega, fold_next (by omega) q1 (by simp_all [headStep] <;> (intros; omega))⟩, by omega⟩
          · try have d5 := of_decide_eq_false h5
            try have hnn := rowHead_nn h5
            refine gn h5 rfl rfl rfl ?_
            refine gn h5 rfl rfl rfl ?_
            refine gn h5 rfl rfl rfl ?_
            refine gu rfl rfl rfl ?_
            refine gu rfl rfl rfl ?_
            refine gu rfl rfl rfl ?_
            refine gu rfl rfl rfl ?_
            refine gu rfl rfl rfl ?_
            refine gn h5 rfl rfl rfl ?_
            refine xo (q_pick_f rfl h5 rfl) rfl ?_
            refine nl ?_
            (repeat first | refine et ?_ | refine eb ?_)
            (repeat refine sq ?_)
            refine ev_cond_kf rfl rfl ?_
            (repeat refine sq ?_)
            refine ev_skip ?_
            (repeat first | refine et ?_ | refine eb ?_)
            (repeat refine sq ?_)
            refine rg ?_
            refine xa rfl rfl rfl (by omega) rfl ?_
            refine xm rfl rfl ?_
            refine nl ?_
            (repeat first | refine et ?_ | refine eb ?_)
            (repeat first | refine et ?_ | refine eb ?_)
            refine eve_round (j + 1, b2, f2) [] ?hp ⟨by (repeat first | exact trivial | refine ⟨rfl, ?_⟩), by (repeat first | exact trivial | refine ⟨rfl, ?_⟩), ⟨⟨_, rfl, rfl⟩, ⟨_, rfl, rfl⟩, trivial⟩, by (repeat first | exact trivial | refine ⟨⟨_, rfl, rfl⟩, ?_⟩), rfl⟩
            case hp => exact ⟨⟨by omega, fold_next (by omega) q1 (by simp_all [headStep] <;> (intros; omega))⟩, by omega⟩
        · try have d4 := of_decide_eq_false h4
          try have hnn := rowHead_nn h4
          refine gn h4 rfl rfl rfl ?_
          refine gn h4 rfl rfl rfl ?_
          refine gn h4 rfl rfl rfl ?_
          refine gn h4 rfl rfl rfl ?_
          refine gn h4 rfl rfl rfl ?_
          refine xo (q_pick_f rfl h4 rfl) rfl ?_
          refine xm rfl rfl ?_
          refine gn rfl rfl rfl rfl ?_
          refine gn rfl rfl rfl rfl ?_
          refine gn rfl rfl rfl rfl ?_
          refine gu rfl rfl rfl ?_
          refine gu rfl rfl rfl ?_
          refine gu rfl rfl rfl ?_
          refine gu rfl rfl rfl ?_
          refine gu rfl rfl rfl ?_
          refine gn rfl rfl rfl rfl ?_
          refine xo (q_pick_f rfl rfl rfl) rfl ?_
          refine nl ?_
          (repeat first | refine et ?_ | refine eb ?_)
          (repeat refine sq ?_)
          refine ev_cond_kf rfl rfl ?_
          (repeat refine sq ?_)
          refine ev_skip ?_
          (repeat first | refine et ?_ | refine eb ?_)
          (repeat refine sq ?_)
          refine rg ?_
          refine xa rfl rfl rfl (by omega) rfl ?_
          refine xm rfl rfl ?_
          refine nl ?_
          (repeat first | refine et ?_ | refine eb ?_)
          (repeat first | refine et ?_ | refine eb ?_)
          refine eve_round (j + 1, b2, f2) [] ?hp ⟨by (repeat first | exact trivial | refine ⟨rfl, ?_⟩), by (repeat first | exact trivial | refine ⟨rfl, ?_⟩), ⟨⟨_, rfl, rfl⟩, ⟨_, rfl, rfl⟩, trivial⟩, by (repeat first | exact trivial | refine ⟨⟨_, rfl, rfl⟩, ?_⟩), rfl⟩
          case hp => exact ⟨⟨by omega, fold_next (by omega) q1 (by simp_all [headStep] <;> (intros; omega))⟩, by omega⟩
      · try have d3 := of_decide_eq_false h3
        try have hnn := rowHead_nn h3
        (repeat refine sq ?_)
        refine ev_exit ?_
        (repeat first | refine evx_then ?_ | refine evx_hit ?_ | refine evx_miss rfl ?_)
        (repeat first | refine et ?_ | refine eb ?_)
        (repeat refine sq ?_)
        refine rg ?_
        refine xm rfl rfl ?_
        refine xa rfl rfl rfl (by omega) rfl ?_
        refine xs rfl rfl ?_
        refine nl ?_
        (repeat first | refine et ?_ | refine eb ?_)
        (repeat first | refine et ?_ | refine eb ?_)
        refine eve_round (k + 1, _, _) [] ?hp ⟨by (repeat first | exact trivial | refine ⟨rfl, ?_⟩), by (repeat first | exact trivial | refine ⟨rfl, ?_⟩), ⟨⟨_, rfl, by rfl⟩, trivial⟩, by (repeat first | exact trivial | refine ⟨⟨_, rfl, rfl⟩, ?_⟩), rfl⟩
        case hp => exact ⟨⟨by omega, (fold_all (by omega) q1).trans (show List.foldl _ (best, fd) _ = (rightF t k).foldl (headStep k) (headUp t k) by rw [p1])⟩, by omega⟩
    · try have d2 := of_decide_eq_false h2
      try have hnn := rowHead_nn h2
      (repeat refine sq ?_)
      refine ev_exit ?_
      (repeat first | refine evx_then ?_ | refine evx_hit ?_ | refine evx_miss rfl ?_)
      (repeat first | refine et ?_ | refine eb ?_)
      (repeat refine sq ?_)
      refine rg ?_
      first | refine xo (q_load_pr ttOk rfl rfl rfl rfl (get_map (by omega)) rfl rfl) rfl ?_ | refine xl ttOk rfl rfl ?_
      refine xm rfl rfl ?_
      refine xst ttOk rfl ?_ rfl
      refine xs rfl rfl ?_
      refine nl ?_
      (repeat first | refine et ?_ | refine eb ?_)
      (repeat refine sq ?_)
      refine ev_ret ?_
      (repeat first | refine evr_then ?_ | refine evr_blk ?_)
      refine ret_pure' ttOk rfl rfl ?_
      obtain rfl : k = 2 := by omega
      rw [show headIn t = (best, fd) by rw [p1]; simp [headIn, show keptOk t = true from h1]]

end Go.Proofs.YtpbhcdgdabfhfaaGreat
