/- Walks of functions of the program, printed by a program of the prover. -/
import Derived.Test.YtahkjonokeifmaaGreatRaF10
import Derived.Test.YtahkjonokeifmaaGreatRaVN
import Derived.Test.YtahkjonokeifmaaGreatRaVY
namespace Go.Proofs.YtahkjonokeifmaaGreat
open Go.ChangeShapes Go.WideShapes Go.ChangeAt Go.RowKit
set_option linter.unusedVariables false
set_option linter.unusedSimpArgs false
set_option maxHeartbeats 1000000
set_option maxRecDepth 100000
attribute [local irreducible] EvL Ev EvE Quiet Eff Pure RDk RDb RDo
theorem rs_sub {S : St} {x : Operand} {r n k j ty : Nat} {l : List (List C)} {cs : List C} {y : C} (hx : opv S.T x = some (.p false [.sub r n k j])) (hr : lk S.R r = some (ty, n, l)) (hk : l[k]? = some cs) (hj : cs[j]? = some y) : RsA S [x] [(false, [y])] := ⟨⟨_, hx, ⟨ty, l, cs, hr, hk, hj⟩, trivial⟩, trivial⟩
theorem get_map {α β : Type} {f : α → β} {L : List α} {k : Nat} (hk : k < L.length) : (L.map f)[k]? = some (f L[k]) := by rw [List.getElem?_map, List.getElem?_eq_getElem hk]; rfl
def headStep (x : Int) (acc : Head × Bool) (row : List Int) : Head × Bool := if (rowHeadF row).isSome = true ∧ ((rowHeadF row).getD noHead).num % 2 = x ∧ (acc.2 = false ∨ ((rowHeadF row).getD noHead).num > acc.1.num) then ((rowHeadF row).getD noHead, true) else acc
def headUp (t : Two) : Nat → Head × Bool
 | 0 => (noHead, false)
 | k + 1 => (rightF t k).foldl (headStep k) (headUp t k)
def headIn (t : Two) : Head × Bool := if keptOk t then headUp t 2 else (noHead, false)
theorem rowHead_nn {l : List Int} (h : (rowHeadF l).isSome = true) : 0 ≤ ((rowHeadF l).getD noHead).num := by
 unfold rowHeadF at *
 split at h
 ·rename_i hh
  rw [if_pos hh]
  have := hh.2.1
  simp only [headOk, inB, Bool.and_eq_true, decide_eq_true_eq] at this
  exact this.2.1.1
 ·cases h
theorem rightF_len (t : Two) (x : Int) : (rightF t x).length ≤ 2 := by
 unfold rightF rightOf
 split
 ·cases uns (readF t.a x) <;> cases uns (readF t.b x) <;> simp
  split <;> simp
 ·simp
theorem fold_next {α β : Type} {f : α → β → α} {a : α} {l : List β} {j : Nat} {s s' : α} (hj : j < l.length) (h : s = (l.take j).foldl f a) (h2 : s' = f s l[j]) : s' = (l.take (j + 1)).foldl f a := by
 rw [List.take_succ_eq_append_getElem hj, List.foldl_append, ← h, h2]; rfl
theorem fold_all {α β : Type} {f : α → β → α} {a : α} {l : List β} {j : Nat} {s : α} (hj : ¬ j < l.length) (h : s = (l.take j).foldl f a) : s = l.foldl f a := by rw [h, List.take_of_length_le om]
theorem c_HeadIn (t : Two) : Pure Tryz.prog 8 [many (twoC t)] [many' (headR (headIn t).1), one' (RC.v (.bool (headIn t).2))] := by
 refine pure_intro (N := 59) Tryz.func8 rfl rfl rfl rfl (fun H w => ?_)
 refine sq (rg (evl_e (e_box rfl rfl rfl rfl) (evl_e (e_alloc ttOk rfl rfl rfl rfl) (xs rfl rfl (nl (et (sq (rg (xo (q_build ttOk rfl) rfl (evl_e (e_alloc ttOk rfl rfl rfl rfl) (xst ttOk rfl rfl (nl (et (sq (rg (xs rfl rfl (nl (et (sq (sq (rg ?_)))))))))))))))))))))
 first | refine xo (q_load_pr ttOk rfl rfl rfl rfl (get_map om) rfl rfl) rfl ?_ | refine xl ttOk rfl rfl ?_
 refine evl_call (nm := 13) (cf rfl) (c_KeptOk ⟨⟨_, _⟩, ⟨_, _⟩⟩) (rs_of rfl) rfl rfl rfl (xo (q_not rfl) rfl (nl (et (ev_cond_n rfl (fun h1 => ?_) (fun h1 => ?_)))))
 ·try have d1 := of_decide_eq_false h1
  try have hnn := rowHead_nn h1
  refine sq (rg ?_)
  first | refine xo (q_load_pr ttOk rfl rfl rfl rfl (get_map om) rfl rfl) rfl ?_ | refine xl ttOk rfl rfl ?_
  refine xst ttOk rfl rfl (xs rfl rfl (nl (et (ev_ret (evr_then (ret_pureN ttOk rfl rfl ?_))))))
  rw [show headIn t = (noHead, false) by simp [headIn, show keptOk t = false from h1]]; simp [RpLe, L2, RcLe, noHead]
 ·try have d1 := of_decide_eq_true h1
  try have hnn := rowHead_nn h1
  refine ev_skip (et (sq (sq (ev_adopt (b := 4) 3 101 76 3 rfl rfl rfl rfl rfl (rg (xs rfl rfl (nl (et (ev_blk (ev_loop (fun i : Nat × Head × Bool => (⟨[(6, iV i.1), (1, pbV 1 0), (2, pbV 2 0), (3, bV false), (4, pbV 4 0), (5, bV i.2.2)], [(4, 36, [.c (iC i.2.1.num), .c (iC i.2.1.base), .c (iC i.2.1.time), .rt 101]), (2, 36, [.c (iC 0), .c (iC 0), .c (iC 0), .c .nil]), (1, 32, [.c (rows t.a.kept), .c (writes t.a.wait), .c (rows t.b.kept), .c (writes t.b.wait)])], [(101, 76, 3, (i.2.1.seen.map markC))], []⟩ : St)) (fun i => i.1 ≤ 2 ∧ (i.2.1, i.2.2) = headUp t i.1) (fun i => 2 - i.1) (0, noHead, false) [] (⟨by simp, rfl⟩) ⟨trf, trf, ⟨⟨_, rfl, by rfl⟩, trivial⟩, tre, rfl⟩ ?_))))))))))
  intro i hp
  obtain ⟨k, best, fd⟩ := i
  have hp : k ≤ 2 ∧ (best, fd) = headUp t k := hp
  obtain ⟨p0, p1⟩ := hp
  show Ev _ _ _ _ (⟨[(6, iV k), (1, pbV 1 0), (2, pbV 2 0), (3, bV false), (4, pbV 4 0), (5, bV fd)], [(4, 36, [.c (iC best.num), .c (iC best.base), .c (iC best.time), .rt 101]), (2, 36, [.c (iC 0), .c (iC 0), .c (iC 0), .c .nil]), (1, 32, [.c (rows t.a.kept), .c (writes t.a.wait), .c (rows t.b.kept), .c (writes t.b.wait)])], [(101, 76, 3, (best.seen.map markC))], []⟩ : St)
  refine sq (sq (rg (xm rfl rfl (xb ttOk rfl rfl (nl (et (ev_cond rfl (fun h2 => ?_) (fun h2 => ?_))))))))
  ·try have d2 := of_decide_eq_true h2
   try have hnn := rowHead_nn h2
   refine ev_skip (et (sq (ev_blk (sq (rg ?_)))))
   first | refine xo (q_load_pr ttOk rfl rfl rfl rfl (get_map om) rfl rfl) rfl ?_ | refine xl ttOk rfl rfl ?_
   refine xm rfl rfl (evl_call (nm := 22) (cf rfl) (c_RightAt t _) (rs_of rfl) rfl rfl rfl (xs rfl rfl (nl (et (sq ?_)))))
   have hrl := rightF_len t k
   refine rg (xs rfl rfl (nl (et (ev_blk (ev_loop (fun i : Nat × Head × Bool => (⟨[(8, iV i.1), (7, .p false [.rt 102]), (6, iV k), (1, pbV 1 0), (2, pbV 2 0), (3, bV false), (4, pbV 4 0), (5, bV i.2.2)], [(4, 36, [.c (iC i.2.1.num), .c (iC i.2.1.base), .c (iC i.2.1.time), .rt 101]), (2, 36, [.c (iC 0), .c (iC 0), .c (iC 0), .c .nil]), (1, 32, [.c (rows t.a.kept), .c (writes t.a.wait), .c (rows t.b.kept), .c (writes t.b.wait)])], [(101, 76, 3, (i.2.1.seen.map markC)), (102, 45, 1, ((rightF t k).map fun r => [ints r]))], []⟩ : St)) (fun i => i.1 ≤ (rightF t k).length ∧ (i.2.1, i.2.2) = ((rightF t k).take i.1).foldl (headStep k) (best, fd)) (fun i => (rightF t k).length - i.1) (0, best, fd) [(102, 22)] (⟨by simp, rfl⟩) ⟨trf, trf, ⟨⟨_, rfl, by rfl⟩, ⟨_, rfl, by rfl⟩, trivial⟩, tre, rfl⟩ ?_)))))
   intro i hp
   obtain ⟨j, b2, f2⟩ := i
   have hp : j ≤ (rightF t k).length ∧ (b2, f2) = ((rightF t k).take j).foldl (headStep k) (best, fd) := hp
   obtain ⟨q0, q1⟩ := hp
   show Ev _ _ _ _ (⟨[(8, iV j), (7, .p false [.rt 102]), (6, iV k), (1, pbV 1 0), (2, pbV 2 0), (3, bV false), (4, pbV 4 0), (5, bV f2)], [(4, 36, [.c (iC b2.num), .c (iC b2.base), .c (iC b2.time), .rt 101]), (2, 36, [.c (iC 0), .c (iC 0), .c (iC 0), .c .nil]), (1, 32, [.c (rows t.a.kept), .c (writes t.a.wait), .c (rows t.b.kept), .c (writes t.b.wait)])], [(101, 76, 3, (b2.seen.map markC)), (102, 45, 1, ((rightF t k).map fun r => [ints r]))], []⟩ : St)
   refine sq (sq (rg (xm rfl rfl (xm rfl rfl (xo (q_len_rtm ttOk rfl rfl rfl) rfl (xb ttOk rfl rfl (nl (et (ev_cond rfl (fun h3 => ?_) (fun h3 => ?_))))))))))
   ·try have d3 := of_decide_eq_true h3
    try have hnn := rowHead_nn h3
    refine ev_skip (et (sq (ev_blk (sq (rg (xm rfl rfl (xm rfl rfl (xo (q_ix_rt (m := j) ttOk rfl rfl rfl rfl rfl rfl (by simp; omega)) rfl ?_))))))))
    first | refine xo (q_load_pr ttOk rfl rfl rfl rfl (get_map om) rfl rfl) rfl ?_ | refine xl ttOk rfl rfl ?_
    refine evl_call (nm := 34) (cf rfl) (c_RowHead _) (rs_sub rfl rfl (get_map om) rfl) rfl rfl rfl (xm rfl rfl (xo (q_ext rfl) rfl (xo (q_ext rfl) rfl (evl_e (e_alloc ttOk rfl rfl rfl rfl) (xst ttOk rfl rfl (xs rfl rfl (nl (et (sq (rg (xm rfl rfl (xm rfl rfl (evl_part rfl rfl (fun h4 => ?_) (fun h4 => ?_))))))))))))))
    ·try have d4 := of_decide_eq_true h4
     try have hnn := rowHead_nn h4
     refine go h4 rfl rfl (q_fieldAddr ttOk rfl) rfl ?_
     first | refine go h4 rfl rfl (q_load_pr ttOk rfl rfl rfl rfl (get_map om) rfl rfl) rfl ?_ | refine go h4 rfl rfl (q_load ttOk rfl) rfl ?_
     first | refine go h4 rfl rfl (q_rem_pos rfl rfl om) rfl ?_ | refine go h4 rfl rfl (q_rem rfl rfl om) rfl ?_
     refine gm h4 rfl rfl rfl rfl (go h4 rfl rfl (q_bin ttOk rfl) rfl (xo (q_pick_t rfl h4 rfl) rfl (xm rfl rfl (evl_part rfl rfl (fun h5 => ?_) (fun h5 => ?_)))))
     ·try have d5 := of_decide_eq_true h5
      try have hnn := rowHead_nn h5
      refine gm h5 rfl rfl rfl rfl (go h5 rfl rfl (q_not rfl) rfl (gm h5 rfl rfl rfl rfl (evl_partn rfl rfl (fun h6 => ?_) (fun h6 => ?_))))
      ·try have d6 := of_decide_eq_false h6
       try have hnn := rowHead_nn h6
       refine gn (nt h6) rfl rfl rfl (gn (nt h6) rfl rfl rfl (gn (nt h6) rfl rfl rfl (gn (nt h6) rfl rfl rfl (gn (nt h6) rfl rfl rfl (go h5 rfl rfl (q_pick_t rfl (nt h6) rfl) rfl (xo (q_pick_t rfl h5 rfl) rfl (nl (et (ev_cond_kt rfl rfl (sq (rg ?_)))))))))))
       first | refine xo (q_load_pr ttOk rfl rfl rfl rfl (get_map om) rfl rfl) rfl ?_ | refine xl ttOk rfl rfl ?_
       refine xst ttOk rfl rfl (nl (et (rg (xs rfl rfl (nl (eb (et (rg (xm rfl rfl (xa rfl rfl rfl om rfl (xs rfl rfl (nl (eve_round (j + 1, (rowHeadF (rightF t k)[j]).getD noHead, true) [(101, 34)] ?hp ⟨trf, trf, ⟨⟨_, rfl, rfl⟩, ⟨_, rfl, rfl⟩, trivial⟩, tre, rfl⟩)))))))))))))
       case hp => exact ⟨⟨by omega, fold_next om q1 (by simp_all [headStep] <;> (intros; omega))⟩, by omega⟩
      ·try have d6 := of_decide_eq_true h6
       try have hnn := rowHead_nn h6
       refine go (nf h6) rfl rfl (q_fieldAddr ttOk rfl) rfl ?_
       first | refine go (nf h6) rfl rfl (q_load_pr ttOk rfl rfl rfl rfl (get_map om) rfl rfl) rfl ?_ | refine go (nf h6) rfl rfl (q_load ttOk rfl) rfl ?_
       refine go (nf h6) rfl rfl (q_fieldAddr ttOk rfl) rfl ?_
       first | refine go (nf h6) rfl rfl (q_load_pr ttOk rfl rfl rfl rfl (get_map om) rfl rfl) rfl ?_ | refine go (nf h6) rfl rfl (q_load ttOk rfl) rfl ?_
       refine go (nf h6) rfl rfl (q_bin ttOk rfl) rfl (go h5 rfl rfl (q_pick_f rfl (nf h6) rfl) rfl (xo (q_pick_t rfl h5 rfl) rfl (nl (et (ev_cond rfl (fun h7 => ?_) (fun h7 => ?_))))))
       ·try have d7 := of_decide_eq_true h7
        try have hnn := rowHead_nn h7
        refine sq (rg ?_)
        first | refine xo (q_load_pr ttOk rfl rfl rfl rfl (get_map om) rfl rfl) rfl ?_ | refine xl ttOk rfl rfl ?_
        refine xst ttOk rfl rfl (nl (et (rg (xs rfl rfl (nl (eb (et (rg (xm rfl rfl (xa rfl rfl rfl om rfl (xs rfl rfl (nl (eve_round (j + 1, (rowHeadF (rightF t k)[j]).getD noHead, true) [(101, 34)] ?hp ⟨trf, trf, ⟨⟨_, rfl, rfl⟩, ⟨_, rfl, rfl⟩, trivial⟩, tre, rfl⟩)))))))))))))
        case hp => exact ⟨⟨by omega, fold_next om q1 (by simp_all [headStep] <;> (intros; omega))⟩, by omega⟩
       ·try have d7 := of_decide_eq_false h7
        try have hnn := rowHead_nn h7
        refine ev_skip (eb (et (rg (xm rfl rfl (xa rfl rfl rfl om rfl (xs rfl rfl (nl (eve_round (j + 1, b2, f2) [] ?hp ⟨trf, trf, ⟨⟨_, rfl, rfl⟩, ⟨_, rfl, rfl⟩, trivial⟩, tre, rfl⟩))))))))
        case hp => exact ⟨⟨by omega, fold_next om q1 (by simp_all [headStep] <;> (intros; omega))⟩, by omega⟩
     ·try have d5 := of_decide_eq_false h5
      try have hnn := rowHead_nn h5
      refine gn h5 rfl rfl rfl (gn h5 rfl rfl rfl (gn h5 rfl rfl rfl (gu rfl rfl rfl (gu rfl rfl rfl (gu rfl rfl rfl (gu rfl rfl rfl (gu rfl rfl rfl (gn h5 rfl rfl rfl (xo (q_pick_f rfl h5 rfl) rfl (nl (et (ev_cond_kf rfl rfl (ev_skip (eb (et (rg (xm rfl rfl (xa rfl rfl rfl om rfl (xs rfl rfl (nl (eve_round (j + 1, b2, f2) [] ?hp ⟨trf, trf, ⟨⟨_, rfl, rfl⟩, ⟨_, rfl, rfl⟩, trivial⟩, tre, rfl⟩)))))))))))))))))))))
      case hp => exact ⟨⟨by omega, fold_next om q1 (by simp_all [headStep] <;> (intros; omega))⟩, by omega⟩
    ·try have d4 := of_decide_eq_false h4
     try have hnn := rowHead_nn h4
     refine gn h4 rfl rfl rfl (gn h4 rfl rfl rfl (gn h4 rfl rfl rfl (gn h4 rfl rfl rfl (gn h4 rfl rfl rfl (xo (q_pick_f rfl h4 rfl) rfl (xm rfl rfl (gn rfl rfl rfl rfl (gn rfl rfl rfl rfl (gn rfl rfl rfl rfl (gu rfl rfl rfl (gu rfl rfl rfl (gu rfl rfl rfl (gu rfl rfl rfl (gu rfl rfl rfl (gn rfl rfl rfl rfl (xo (q_pick_f rfl rfl rfl) rfl (nl (et (ev_cond_kf rfl rfl (ev_skip (eb (et (rg (xm rfl rfl (xa rfl rfl rfl om rfl (xs rfl rfl (nl (eve_round (j + 1, b2, f2) [] ?hp ⟨trf, trf, ⟨⟨_, rfl, rfl⟩, ⟨_, rfl, rfl⟩, trivial⟩, tre, rfl⟩))))))))))))))))))))))))))))
     case hp => exact ⟨⟨by omega, fold_next om q1 (by simp_all [headStep] <;> (intros; omega))⟩, by omega⟩
   ·try have d3 := of_decide_eq_false h3
    try have hnn := rowHead_nn h3
    refine ev_exit (evx_then (evx_then (evx_hit (eb (et (rg (xm rfl rfl (xa rfl rfl rfl om rfl (xs rfl rfl (nl (eve_round (k + 1, _, _) [] ?hp ⟨trf, trf, ⟨⟨_, rfl, by rfl⟩, trivial⟩, tre, rfl⟩)))))))))))
    case hp => exact ⟨⟨by omega, (fold_all om q1).trans (show List.foldl _ (best, fd) _ = (rightF t k).foldl (headStep k) (headUp t k) by rw [p1])⟩, by omega⟩
  ·try have d2 := of_decide_eq_false h2
   try have hnn := rowHead_nn h2
   refine ev_exit (evx_then (evx_then (evx_hit (et (sq (rg ?_))))))
   first | refine xo (q_load_pr ttOk rfl rfl rfl rfl (get_map om) rfl rfl) rfl ?_ | refine xl ttOk rfl rfl ?_
   refine xm rfl rfl (xst ttOk rfl rfl (xs rfl rfl (nl (et (ev_ret (ret_pure' ttOk rfl rfl ?_))))))
   obtain rfl : k = 2 := by omega
   rw [show headIn t = (best, fd) by rw [p1]; simp [headIn, show keptOk t = true from h1]]
theorem c_HeadIn' (t : Two) : Pure Tryz.prog 20 [many (twoC t)] [many' (headR (headIn t).1), one' (RC.v (.bool (headIn t).2))] := by
 refine pure_intro (N := 56) Tryz.func20 rfl rfl rfl rfl (fun H w => ?_)
 refine sq (rg (evl_e (e_box rfl rfl rfl rfl) (evl_e (e_alloc ttOk rfl rfl rfl rfl) (xs rfl rfl (nl (et (sq (sq (rg ?_)))))))))
 first | refine xo (q_load_pr ttOk rfl rfl rfl rfl (get_map om) rfl rfl) rfl ?_ | refine xl ttOk rfl rfl ?_
 refine evl_call (nm := 12) (cf rfl) (c_KeptOk' ⟨⟨_, _⟩, ⟨_, _⟩⟩) (rs_of rfl) rfl rfl rfl (xo (q_not rfl) rfl (nl (et (ev_cond_n rfl (fun h1 => ?_) (fun h1 => ?_)))))
 ·try have d1 := of_decide_eq_false h1
  try have hnn := rowHead_nn h1
  refine sq (rg (xo (q_build ttOk rfl) rfl (xst ttOk rfl rfl (xs rfl rfl (nl (et (ev_ret (evr_then (ret_pureN ttOk rfl rfl ?_)))))))))
  rw [show headIn t = (noHead, false) by simp [headIn, show keptOk t = false from h1]]; simp [RpLe, L2, RcLe, noHead]
 ·try have d1 := of_decide_eq_true h1
  try have hnn := rowHead_nn h1
  refine ev_skip (et (sq (rg (xo (q_build ttOk rfl) rfl (evl_e (e_alloc ttOk rfl rfl rfl rfl) (xst ttOk rfl rfl (xs rfl rfl (nl (et (sq (sq (ev_adopt (b := 4) 3 101 76 3 rfl rfl rfl rfl rfl (rg (xs rfl rfl (nl (et (ev_blk (ev_loop (fun i : Nat × Head × Bool => (⟨[(6, iV i.1), (1, pbV 1 0), (2, pbV 2 0), (3, bV false), (4, pbV 4 0), (5, bV i.2.2)], [(4, 36, [.c (iC i.2.1.num), .c (iC i.2.1.base), .c (iC i.2.1.time), .rt 101]), (2, 36, [.c (iC 0), .c (iC 0), .c (iC 0), .c .nil]), (1, 32, [.c (rows t.a.kept), .c (writes t.a.wait), .c (rows t.b.kept), .c (writes t.b.wait)])], [(101, 76, 3, (i.2.1.seen.map markC))], []⟩ : St)) (fun i => i.1 ≤ 2 ∧ (i.2.1, i.2.2) = headUp t i.1) (fun i => 2 - i.1) (0, noHead, false) [] (⟨by simp, rfl⟩) ⟨trf, trf, ⟨⟨_, rfl, by rfl⟩, trivial⟩, tre, rfl⟩ ?_))))))))))))))))))
  intro i hp
  obtain ⟨k, best, fd⟩ := i
  have hp : k ≤ 2 ∧ (best, fd) = headUp t k := hp
  obtain ⟨p0, p1⟩ := hp
  show Ev _ _ _ _ (⟨[(6, iV k), (1, pbV 1 0), (2, pbV 2 0), (3, bV false), (4, pbV 4 0), (5, bV fd)], [(4, 36, [.c (iC best.num), .c (iC best.base), .c (iC best.time), .rt 101]), (2, 36, [.c (iC 0), .c (iC 0), .c (iC 0), .c .nil]), (1, 32, [.c (rows t.a.kept), .c (writes t.a.wait), .c (rows t.b.kept), .c (writes t.b.wait)])], [(101, 76, 3, (best.seen.map markC))], []⟩ : St)
  refine sq (sq (rg (xm rfl rfl (xb ttOk rfl rfl (nl (et (ev_cond rfl (fun h2 => ?_) (fun h2 => ?_))))))))
  ·try have d2 := of_decide_eq_true h2
   try have hnn := rowHead_nn h2
   refine ev_skip (et (sq (ev_blk (sq ?_))))
   have hrl := rightF_len t k
   refine rg ?_
   first | refine xo (q_load_pr ttOk rfl rfl rfl rfl (get_map om) rfl rfl) rfl ?_ | refine xl ttOk rfl rfl ?_
   refine xm rfl rfl (evl_call (nm := 22) (cf rfl) (c_RightAt' t _) (rs_of rfl) rfl rfl rfl (xo (q_len_rtm ttOk rfl rfl rfl) rfl (xm rfl rfl (nl (et (ev_blk (ev_loop (fun i : Nat × Head × Bool => (⟨[(24, iV i.1), (22, .p false [.rt 102]), (23, iV (rightF t k).length), (6, iV k), (1, pbV 1 0), (2, pbV 2 0), (3, bV false), (4, pbV 4 0), (5, bV i.2.2)], [(4, 36, [.c (iC i.2.1.num), .c (iC i.2.1.base), .c (iC i.2.1.time), .rt 101]), (2, 36, [.c (iC 0), .c (iC 0), .c (iC 0), .c .nil]), (1, 32, [.c (rows t.a.kept), .c (writes t.a.wait), .c (rows t.b.kept), .c (writes t.b.wait)])], [(101, 76, 3, (i.2.1.seen.map markC)), (102, 45, 1, ((rightF t k).map fun r => [ints r]))], []⟩ : St)) (fun i => i.1 ≤ (rightF t k).length ∧ (i.2.1, i.2.2) = ((rightF t k).take i.1).foldl (headStep k) (best, fd)) (fun i => (rightF t k).length - i.1) (0, best, fd) [(102, 22)] (⟨by simp, rfl⟩) ⟨trf, trf, ⟨⟨_, rfl, by rfl⟩, ⟨_, rfl, by rfl⟩, trivial⟩, tre, rfl⟩ ?_)))))))
   intro i hp
   obtain ⟨j, b2, f2⟩ := i
   have hp : j ≤ (rightF t k).length ∧ (b2, f2) = ((rightF t k).take j).foldl (headStep k) (best, fd) := hp
   obtain ⟨q0, q1⟩ := hp
   show Ev _ _ _ _ (⟨[(24, iV j), (22, .p false [.rt 102]), (23, iV (rightF t k).length), (6, iV k), (1, pbV 1 0), (2, pbV 2 0), (3, bV false), (4, pbV 4 0), (5, bV f2)], [(4, 36, [.c (iC b2.num), .c (iC b2.base), .c (iC b2.time), .rt 101]), (2, 36, [.c (iC 0), .c (iC 0), .c (iC 0), .c .nil]), (1, 32, [.c (rows t.a.kept), .c (writes t.a.wait), .c (rows t.b.kept), .c (writes t.b.wait)])], [(101, 76, 3, (b2.seen.map markC)), (102, 45, 1, ((rightF t k).map fun r => [ints r]))], []⟩ : St)
   refine sq (rg (xb ttOk rfl rfl (nl (et (sq (ev_cond rfl (fun h3 => ?_) (fun h3 => ?_)))))))
   ·try have d3 := of_decide_eq_true h3
    try have hnn := rowHead_nn h3
    refine ev_skip (et (sq (ev_blk (sq (rg (xo (q_ix_rt (m := j) ttOk rfl rfl rfl rfl rfl rfl (by simp; omega)) rfl ?_))))))
    first | refine xo (q_load_pr ttOk rfl rfl rfl rfl (get_map om) rfl rfl) rfl ?_ | refine xl ttOk rfl rfl ?_
    refine xs rfl rfl (nl (et (sq (rg (xm rfl rfl (evl_call (nm := 30) (cf rfl) (c_RowHead' _) (rs_sub rfl rfl (get_map om) rfl) rfl rfl rfl (xm rfl rfl (xo (q_ext rfl) rfl (xo (q_ext rfl) rfl (evl_e (e_alloc ttOk rfl rfl rfl rfl) (xst ttOk rfl rfl (xs rfl rfl (nl (et (sq (rg (xm rfl rfl (xm rfl rfl (evl_part rfl rfl (fun h4 => ?_) (fun h4 => ?_))))))))))))))))))))
    ·try have d4 := of_decide_eq_true h4
     try have hnn := rowHead_nn h4
     refine go h4 rfl rfl (q_fieldAddr ttOk rfl) rfl ?_
     first | refine go h4 rfl rfl (q_load_pr ttOk rfl rfl rfl rfl (get_map om) rfl rfl) rfl ?_ | refine go h4 rfl rfl (q_load ttOk rfl) rfl ?_
     first | refine go h4 rfl rfl (q_rem_pos rfl rfl om) rfl ?_ | refine go h4 rfl rfl (q_rem rfl rfl om) rfl ?_
     refine gm h4 rfl rfl rfl rfl (go h4 rfl rfl (q_bin ttOk rfl) rfl (xo (q_pick_t rfl h4 rfl) rfl (xm rfl rfl (evl_part rfl rfl (fun h5 => ?_) (fun h5 => ?_)))))
     ·try have d5 := of_decide_eq_true h5
      try have hnn := rowHead_nn h5
      refine gm h5 rfl rfl rfl rfl (go h5 rfl rfl (q_not rfl) rfl (gm h5 rfl rfl rfl rfl (evl_partn rfl rfl (fun h6 => ?_) (fun h6 => ?_))))
      ·try have d6 := of_decide_eq_false h6
       try have hnn := rowHead_nn h6
       refine gn (nt h6) rfl rfl rfl (gn (nt h6) rfl rfl rfl (gn (nt h6) rfl rfl rfl (gn (nt h6) rfl rfl rfl (gn (nt h6) rfl rfl rfl (go h5 rfl rfl (q_pick_t rfl (nt h6) rfl) rfl (xo (q_pick_t rfl h5 rfl) rfl (nl (et (ev_cond_kt rfl rfl (rg ?_))))))))))
       first | refine xo (q_load_pr ttOk rfl rfl rfl rfl (get_map om) rfl rfl) rfl ?_ | refine xl ttOk rfl rfl ?_
       refine xst ttOk rfl rfl (xs rfl rfl (nl (eb (et (rg (xa rfl rfl rfl om rfl (xm rfl rfl (nl (eve_round (j + 1, (rowHeadF (rightF t k)[j]).getD noHead, true) [(101, 30)] ?hp ⟨trf, trf, ⟨⟨_, rfl, rfl⟩, ⟨_, rfl, rfl⟩, trivial⟩, tre, rfl⟩)))))))))
       case hp => exact ⟨⟨by omega, fold_next om q1 (by simp_all [headStep] <;> (intros; omega))⟩, by omega⟩
      ·try have d6 := of_decide_eq_true h6
       try have hnn := rowHead_nn h6
       refine go (nf h6) rfl rfl (q_fieldAddr ttOk rfl) rfl ?_
       first | refine go (nf h6) rfl rfl (q_load_pr ttOk rfl rfl rfl rfl (get_map om) rfl rfl) rfl ?_ | refine go (nf h6) rfl rfl (q_load ttOk rfl) rfl ?_
       refine go (nf h6) rfl rfl (q_fieldAddr ttOk rfl) rfl ?_
       first | refine go (nf h6) rfl rfl (q_load_pr ttOk rfl rfl rfl rfl (get_map om) rfl rfl) rfl ?_ | refine go (nf h6) rfl rfl (q_load ttOk rfl) rfl ?_
       refine go (nf h6) rfl rfl (q_bin ttOk rfl) rfl (go h5 rfl rfl (q_pick_f rfl (nf h6) rfl) rfl (xo (q_pick_t rfl h5 rfl) rfl (nl (et (ev_cond rfl (fun h7 => ?_) (fun h7 => ?_))))))
       ·try have d7 := of_decide_eq_true h7
        try have hnn := rowHead_nn h7
        refine rg ?_
        first | refine xo (q_load_pr ttOk rfl rfl rfl rfl (get_map om) rfl rfl) rfl ?_ | refine xl ttOk rfl rfl ?_
        refine xst ttOk rfl rfl (xs rfl rfl (nl (eb (et (rg (xa rfl rfl rfl om rfl (xm rfl rfl (nl (eve_round (j + 1, (rowHeadF (rightF t k)[j]).getD noHead, true) [(101, 30)] ?hp ⟨trf, trf, ⟨⟨_, rfl, rfl⟩, ⟨_, rfl, rfl⟩, trivial⟩, tre, rfl⟩)))))))))
        case hp => exact ⟨⟨by omega, fold_next om q1 (by simp_all [headStep] <;> (intros; omega))⟩, by omega⟩
       ·try have d7 := of_decide_eq_false h7
        try have hnn := rowHead_nn h7
        refine ev_skip (eb (et (rg (xa rfl rfl rfl om rfl (xm rfl rfl (nl (eve_round (j + 1, b2, f2) [] ?hp ⟨trf, trf, ⟨⟨_, rfl, rfl⟩, ⟨_, rfl, rfl⟩, trivial⟩, tre, rfl⟩)))))))
        case hp => exact ⟨⟨by omega, fold_next om q1 (by simp_all [headStep] <;> (intros; omega))⟩, by omega⟩
     ·try have d5 := of_decide_eq_false h5
      try have hnn := rowHead_nn h5
      refine gn h5 rfl rfl rfl (gn h5 rfl rfl rfl (gn h5 rfl rfl rfl (gu rfl rfl rfl (gu rfl rfl rfl (gu rfl rfl rfl (gu rfl rfl rfl (gu rfl rfl rfl (gn h5 rfl rfl rfl (xo (q_pick_f rfl h5 rfl) rfl (nl (et (ev_cond_kf rfl rfl (ev_skip (eb (et (rg (xa rfl rfl rfl om rfl (xm rfl rfl (nl (eve_round (j + 1, b2, f2) [] ?hp ⟨trf, trf, ⟨⟨_, rfl, rfl⟩, ⟨_, rfl, rfl⟩, trivial⟩, tre, rfl⟩))))))))))))))))))))
      case hp => exact ⟨⟨by omega, fold_next om q1 (by simp_all [headStep] <;> (intros; omega))⟩, by omega⟩
    ·try have d4 := of_decide_eq_false h4
     try have hnn := rowHead_nn h4
     refine gn h4 rfl rfl rfl (gn h4 rfl rfl rfl (gn h4 rfl rfl rfl (gn h4 rfl rfl rfl (gn h4 rfl rfl rfl (xo (q_pick_f rfl h4 rfl) rfl (xm rfl rfl (gn rfl rfl rfl rfl (gn rfl rfl rfl rfl (gn rfl rfl rfl rfl (gu rfl rfl rfl (gu rfl rfl rfl (gu rfl rfl rfl (gu rfl rfl rfl (gu rfl rfl rfl (gn rfl rfl rfl rfl (xo (q_pick_f rfl rfl rfl) rfl (nl (et (ev_cond_kf rfl rfl (ev_skip (eb (et (rg (xa rfl rfl rfl om rfl (xm rfl rfl (nl (eve_round (j + 1, b2, f2) [] ?hp ⟨trf, trf, ⟨⟨_, rfl, rfl⟩, ⟨_, rfl, rfl⟩, trivial⟩, tre, rfl⟩)))))))))))))))))))))))))))
     case hp => exact ⟨⟨by omega, fold_next om q1 (by simp_all [headStep] <;> (intros; omega))⟩, by omega⟩
   ·try have d3 := of_decide_eq_false h3
    try have hnn := rowHead_nn h3
    refine ev_exit (evx_then (evx_then (evx_hit (eb (et (rg (xm rfl rfl (xa rfl rfl rfl om rfl (xs rfl rfl (nl (eve_round (k + 1, _, _) [] ?hp ⟨trf, trf, ⟨⟨_, rfl, by rfl⟩, trivial⟩, tre, rfl⟩)))))))))))
    case hp => exact ⟨⟨by omega, (fold_all om q1).trans (show List.foldl _ (best, fd) _ = (rightF t k).foldl (headStep k) (headUp t k) by rw [p1])⟩, by omega⟩
  ·try have d2 := of_decide_eq_false h2
   try have hnn := rowHead_nn h2
   refine ev_exit (evx_then (evx_then (evx_hit (et (sq (rg ?_))))))
   first | refine xo (q_load_pr ttOk rfl rfl rfl rfl (get_map om) rfl rfl) rfl ?_ | refine xl ttOk rfl rfl ?_
   refine xm rfl rfl (xst ttOk rfl rfl (xs rfl rfl (nl (et (ev_ret (ret_pure' ttOk rfl rfl ?_))))))
   obtain rfl : k = 2 := by omega
   rw [show headIn t = (best, fd) by rw [p1]; simp [headIn, show keptOk t = true from h1]]
def sumN {α : Type} (f : α → Nat) (l : List α) : Nat := (l.map f).sum
def g1 (q : Int) (i : Nat) : List C := [iC (q + i)]
def g3 (q : Int) (i : Nat) : List C := [iC (q + (3 * i : Nat)), iC (q + (3 * i : Nat) + 1), iC (q + (3 * i : Nat) + 1 + 1)]
def g4 (q : Int) (i : Nat) : List C := [iC (q + (4 * i : Nat)), iC (q + (4 * i : Nat) + 1), iC (q + (4 * i : Nat) + 1 + 1), iC (q + (4 * i : Nat) + 1 + 1 + 1)]
def g9 (q : Int) (i : Nat) : List C := [iC (q + (9 * i : Nat)), iC (q + (9 * i : Nat) + 1), iC (q + (9 * i : Nat) + 1 + 1), iC (q + (9 * i : Nat) + 1 + 1 + 1), iC (q + (9 * i : Nat) + 1 + 1 + 1 + 1), iC (q + (9 * i : Nat) + 1 + 1 + 1 + 1 + 1), iC (q + (9 * i : Nat) + 1 + 1 + 1 + 1 + 1 + 1), iC (q + (9 * i : Nat) + 1 + 1 + 1 + 1 + 1 + 1 + 1), iC (q + (9 * i : Nat) + 1 + 1 + 1 + 1 + 1 + 1 + 1 + 1)]
@[reducible] def mk1 (q : Int) (n : Nat) : List (List C) := (List.range n).map (g1 q)
@[reducible] def mk3 (q : Int) (n : Nat) : List (List C) := (List.range n).map (g3 q)
@[reducible] def mk4 (q : Int) (n : Nat) : List (List C) := (List.range n).map (g4 q)
@[reducible] def mk9 (q : Int) (n : Nat) : List (List C) := (List.range n).map (g9 q)
def lenS (x : Int × List Int) : Nat := 1 + x.2.length
def gR (q : Int) (K : List (List Int)) (i : Nat) : List C := [.s 1 (mk1 (q + sumN List.length (K.take i)) (K.getD i []).length)]
def gW (q : Int) (W : List (Int × List Int)) (i : Nat) : List C := [iC (q + sumN lenS (W.take i)), .s 1 (mk1 (q + sumN lenS (W.take i) + 1) (W.getD i (0, [])).2.length)]
@[reducible] def mkRows (q : Int) (K : List (List Int)) : List (List C) := (List.range K.length).map (gR q K)
@[reducible] def mkWrites (q : Int) (W : List (Int × List Int)) : List (List C) := (List.range W.length).map (gW q W)
theorem getD_len {K : List (List Int)} {k : Nat} (hk : k < K.length) : K.getD k [] = K[k] := by simp [hk]
theorem getD_lenW {K : List (Int × List Int)} {k : Nat} (hk : k < K.length) : K.getD k (0, []) = K[k] := by simp [hk]
def mkN (d : Disk) : Nat := sumN List.length d.kept + sumN lenS d.wait
structure Book where
 base : Int
 time : Int
 entries : List Entry
structure LogN where
 two : Two
 head : Head
 next : Head
 more : Bool
 book : Book
 seen : List Mark
 durable : Int
 owe : List Ack
@[reducible] def bookC (x : Book) : List C := [iC x.base, iC x.time, entries x.entries]
@[reducible] def logC (n : LogN) : List C := [rows n.two.a.kept, writes n.two.a.wait, rows n.two.b.kept, writes n.two.b.wait, iC n.head.num, iC n.head.base, iC n.head.time, marks n.head.seen, iC n.next.num, iC n.next.base, iC n.next.time, marks n.next.seen, bC n.more, iC n.book.base, iC n.book.time, entries n.book.entries, marks n.seen, iC n.durable, acks n.owe]
@[reducible] def entriesR (l : List Entry) : RC := .s 62 9 (l.map entryC)
@[reducible] def acksR (l : List Ack) : RC := .s 0 4 (l.map ackC)
@[reducible] def bookR (x : Book) : List RC := [.v (.int .i64 x.base), .v (.int .i64 x.time), entriesR x.entries]
@[reducible] def logR (n : LogN) : List RC := [rowsR n.two.a.kept, writesR n.two.a.wait, rowsR n.two.b.kept, writesR n.two.b.wait, .v (.int .i64 n.head.num), .v (.int .i64 n.head.base), .v (.int .i64 n.head.time), marksR n.head.seen, .v (.int .i64 n.next.num), .v (.int .i64 n.next.base), .v (.int .i64 n.next.time), marksR n.next.seen, .v (.bool n.more),
 .v (.int .i64 n.book.base), .v (.int .i64 n.book.time), entriesR n.book.entries, marksR n.seen, .v (.int .i64 n.durable), acksR n.owe]
def eqHd (a b : Head) : Bool := decide (a.num = b.num) && (decide (a.base = b.base) && (decide (a.time = b.time) && eqN Mark.nums a.seen b.seen))
def eqBk (a b : Book) : Bool := decide (a.base = b.base) && (decide (a.time = b.time) && eqN Entry.nums a.entries b.entries)
theorem c_eqEntries (l m : List Entry) : Pure Tryz.prog 36 [one (entries l), one (entries m)] (bR (eqN Entry.nums l m)) := by
 refine pure_intro (N := 26) Tryz.func36 rfl rfl rfl rfl (fun H w => ?_)
 refine ev_lenm (t := 0) rfl (fun hL => ?_)
 refine ev_lenm (t := 1) rfl (fun hM => ?_)
 refine sq (rg (xs rfl rfl (nl (et (sq (sq (rg (xm rfl rfl (xo (q_len_map ttOk rfl rfl) rfl (xm rfl rfl (xo (q_len_map ttOk rfl rfl) rfl (xb ttOk rfl rfl (nl (et (ev_cond rfl (fun h1 => ?_) (fun h1 => ?_))))))))))))))))
 ·have d1 := of_decide_eq_true h1
  refine sq (rg (xs rfl rfl (nl (et (ev_ret (evr_then (ret_pure' ttOk rfl rfl (congrArg bR (?_ : _ = _)))))))))
  rw [eqN_len d1]
 ·have d1 := of_decide_eq_false h1
  have hlen : l.length = m.length := by omega
  refine ev_skip (et (sq (sq (rg (xm rfl rfl (xo (q_len_map ttOk rfl rfl) rfl (xm rfl rfl (nl (et (ev_blk (ev_loop (fun k : Nat => (⟨[(13, iV k), (12, iV l.length), (0, cV (entries l)), (1, cV (entries m))], [], [], []⟩ : St)) (fun k => k ≤ l.length ∧ (l.take k).map Entry.nums = (m.take k).map Entry.nums) (fun k => l.length - k) 0 [] (⟨by simp, by simp⟩) lei ?_)))))))))))
  intro k hp
  obtain ⟨p0, p1⟩ := hp
  show Ev _ _ _ _ (⟨[(13, iV k), (12, iV l.length), (0, cV (entries l)), (1, cV (entries m))], [], [], []⟩ : St)
  refine sq (rg (xb ttOk rfl rfl (nl (et (sq (ev_cond rfl (fun h2 => ?_) (fun h2 => ?_)))))))
  ·have d2 := of_decide_eq_true h2
   refine ev_skip (et (sq (ev_blk (sq (rg (xm rfl rfl (xs rfl rfl (nl (et (sq (ev_drawq [] mo (rk0 0 rfl (q_move rfl) rfl (rk0 1 rfl (q_move rfl) rfl (rk0 2 rfl (q_ix_map ttOk rfl rfl rfl rfl om) rfl (rk0 3 rfl (q_load ttOk rfl) rfl (rk0 4 rfl (q_move rfl) rfl (rk0 5 rfl (q_move rfl) rfl (rk0 6 rfl (q_ix_map ttOk rfl rfl rfl rfl om) rfl (rk0 7 rfl (q_load ttOk rfl) rfl ?_)))))))))))))))))))
   first | refine rk0 8 rfl (q_eqT (n := 9) kr rfl rfl rfl rfl rfl rfl rfl) rfl ?_ | refine rk0 8 rfl (q_bin ttOk rfl) rfl ?_
   refine rdk_endq kr (et (ev_cond rfl (fun h3 => ?_) (fun h3 => ?_)))
   ·have d3 := of_decide_eq_true h3
    refine sq (rg (xs rfl rfl (nl (et (ev_ret (evr_blk (evr_then (evr_then (evr_blk (evr_then (ret_pure' ttOk rfl rfl (congrArg bR (?_ : _ = _)))))))))))))
    rw [eqN_at (k := k) om om d3]
   ·have d3 := of_decide_eq_false h3
    refine ev_skip (eb (et (rg (xa rfl rfl rfl om rfl (xm rfl rfl (nl (eve_round (k + 1) [] ?hp lei)))))))
    case hp => exact ⟨⟨by omega, takeN om om p1 (Decidable.not_not.1 d3)⟩, by omega⟩
  ·have d2 := of_decide_eq_false h2
   refine ev_exit (evx_then (evx_then (evx_hit (et (sq (rg (xs rfl rfl (nl (et (ev_ret (ret_pure' ttOk rfl rfl (congrArg bR (?_ : _ = _)))))))))))))
   exact (takeN_all om hlen p1).symm
theorem c_SameBook' (x y : Book) : Pure Tryz.prog 12 [many (bookC x), many (bookC y)] (bR (eqBk x y)) := by
 refine pure_intro (N := 24) Tryz.func12 rfl rfl rfl rfl (fun H w => ?_)
 refine sq (rg (evl_e (e_box rfl rfl rfl rfl) (evl_e (e_box rfl rfl rfl rfl) (xs rfl rfl (nl (et (sq (rg (xf ttOk rfl rfl (xl ttOk rfl rfl (xf ttOk rfl rfl (xl ttOk rfl rfl (xb ttOk rfl rfl (xm rfl rfl (evl_part rfl rfl (fun h1 => ?_) (fun h1 => ?_))))))))))))))))
 ·refine go h1 rfl rfl (q_fieldAddr ttOk rfl) rfl (go h1 rfl rfl (q_load ttOk rfl) rfl (go h1 rfl rfl (q_fieldAddr ttOk rfl) rfl (go h1 rfl rfl (q_load ttOk rfl) rfl (go h1 rfl rfl (q_bin ttOk rfl) rfl (xo (q_pick_t rfl h1 rfl) rfl (xm rfl rfl (evl_part rfl rfl (fun h2 => ?_) (fun h2 => ?_))))))))
  ·refine go h2 rfl rfl (q_fieldAddr ttOk rfl) rfl (go h2 rfl rfl (q_load ttOk rfl) rfl (go h2 rfl rfl (q_fieldAddr ttOk rfl) rfl (go h2 rfl rfl (q_load ttOk rfl) rfl (evl_callg rfl rfl h2 (nm := 22) (cf rfl) (c_eqEntries _ _) (rs_of rfl) rfl rfl rfl (xo (q_pick_t rfl h2 rfl) rfl (xs rfl rfl (nl (et (ev_ret (ret_pure' ttOk rfl rfl (congrArg bR (?_ : _ = _))))))))))))
   simp_all [eqBk]
  ·refine gn h2 rfl rfl rfl (gn h2 rfl rfl rfl (gn h2 rfl rfl rfl (gn h2 rfl rfl rfl (gn h2 rfl rfl rfl (xo (q_pick_f rfl h2 rfl) rfl (xs rfl rfl (nl (et (ev_ret (ret_pure' ttOk rfl rfl (congrArg bR (?_ : _ = _))))))))))))
   simp_all [eqBk]
 ·refine gn h1 rfl rfl rfl (gn h1 rfl rfl rfl (gn h1 rfl rfl rfl (gn h1 rfl rfl rfl (gn h1 rfl rfl rfl (xo (q_pick_f rfl h1 rfl) rfl (xm rfl rfl (gn rfl rfl rfl rfl (gn rfl rfl rfl rfl (gn rfl rfl rfl rfl (gn rfl rfl rfl rfl (gn rfl rfl rfl rfl (xo (q_pick_f rfl rfl rfl) rfl (xs rfl rfl (nl (et (ev_ret (ret_pure' ttOk rfl rfl (congrArg bR (?_ : _ = _)))))))))))))))))))
  simp_all [eqBk]
def zeroD : Disk := ⟨[], []⟩
def zeroT : Two := ⟨zeroD, zeroD⟩
def wroteOk (d : Disk) (x : Int) (row : List Int) : Bool := hasAt d x && (rowOk row && decide (d.wait.length < 60))
theorem wroteOk1 {d : Disk} {x : Int} {row : List Int} (h : hasAt d x = false) : wroteOk d x row = false := by simp [wroteOk, h]
theorem wroteOk2 {d : Disk} {x : Int} {row : List Int} (h : rowOk row = false) : wroteOk d x row = false := by simp [wroteOk, h]
theorem wroteOk3 {d : Disk} {x : Int} {row : List Int} (h : 60 ≤ d.wait.length) : wroteOk d x row = false := by
 have : ¬ d.wait.length < 60 := by omega
 simp [wroteOk, this]
def wroteF (d : Disk) (x : Int) (row : List Int) : Disk × Bool := if diskOk d then if wroteOk d x row then (⟨d.kept, d.wait ++ [(x, row)]⟩, true) else (d, false) else (zeroD, false)
theorem wrote_no {d : Disk} {x : Int} {row : List Int} (h : diskOk d = false) : wroteF d x row = (zeroD, false) := by simp [wroteF, h]
theorem wrote_fail {d : Disk} {x : Int} {row : List Int} (h : diskOk d = true) (h2 : wroteOk d x row = false) : wroteF d x row = (d, false) := by simp [wroteF, h, h2]
theorem wrote_yes {d : Disk} {x : Int} {row : List Int} (h : diskOk d = true) (h2 : wroteOk d x row = true) : wroteF d x row = (⟨d.kept, d.wait ++ [(x, row)]⟩, true) := by simp [wroteF, h, h2]
def bothWroteF (t : Two) (x : Int) (row : List Int) : Two × Bool := if twoOk t then if canSum row && ((wroteF t.a x (withSumF row)).2 && (wroteF t.b x (withSumF row)).2) then (⟨(wroteF t.a x (withSumF row)).1, (wroteF t.b x (withSumF row)).1⟩, true) else (t, false) else (zeroT, false)
theorem both_no {t : Two} {x : Int} {row : List Int} (h : twoOk t = false) : bothWroteF t x row = (zeroT, false) := by simp [bothWroteF, h]
theorem both_fail {t : Two} {x : Int} {row : List Int} (h : twoOk t = true) (h2 : (canSum row && ((wroteF t.a x (withSumF row)).2 && (wroteF t.b x (withSumF row)).2)) = false) : bothWroteF t x row = (t, false) := by simp only [bothWroteF, h, h2]; rfl
theorem both_yes {t : Two} {x : Int} {row : List Int} (h : twoOk t = true) (h1 : canSum row = true) (h2 : (wroteF t.a x (withSumF row)).2 = true) (h3 : (wroteF t.b x (withSumF row)).2 = true) : bothWroteF t x row = (⟨(wroteF t.a x (withSumF row)).1, (wroteF t.b x (withSumF row)).1⟩, true) := by simp [bothWroteF, h, h1, h2, h3]
theorem withSum_len {l : List Int} : (withSumF l).length ≤ 48 ∧ ((withSumF l).length = 0 ↔ canSum l = false) := by
 unfold withSumF
 split
 ·rename_i h
  have := h
  simp only [canSum, Bool.and_eq_true, decide_eq_true_eq] at this
  exact ⟨by simp; omega, by simp [h]⟩
 ·rename_i h
  exact ⟨by simp, by simp [h]⟩
def newDiskF (n : Int) : Disk := if 1 ≤ n ∧ n ≤ 40 then ⟨List.replicate n.toNat [], []⟩ else zeroD
def newTwoF (n : Int) : Two := ⟨newDiskF n, newDiskF n⟩
theorem c_Wrote (d : Disk) (x : Int) (row : List Int) : Pure Tryz.prog 145 [many (diskC d), one (iC x), one (ints row)] [many' (diskR ((wroteF d x row).1)), one' (RC.v (.bool ((wroteF d x row).2)))] := by
 refine pure_intro (N := 41) Tryz.func145 rfl rfl rfl rfl (fun H w => ?_)
 refine sq (rg (evl_e (e_box rfl rfl rfl rfl) (evl_e (e_alloc ttOk rfl rfl rfl rfl) (xs rfl rfl (nl (et (sq (sq (rg (xl ttOk rfl rfl (evl_call (nm := 10) (cf rfl) (c_DiskOk d) (rs_of rfl) rfl rfl rfl (xo (q_not rfl) rfl (nl (et (ev_cond_n rfl (fun h1 => ?_) (fun h1 => ?_))))))))))))))))
 try have d1 := of_decide_eq_false h1
 refine sq (rg (xo (q_build ttOk rfl) rfl (xst ttOk rfl rfl (xs rfl rfl (nl (et (ev_ret (evr_then (ret_pureN ttOk rfl rfl ?_)))))))))
 rotate_left
 try have d1 := of_decide_eq_true h1
 have hs := diskOk_sizes h1
 refine ev_skip (et (sq (rg (xl ttOk rfl rfl (evl_call (nm := 14) (cf rfl) (c_l3Copy d ‹_›) (rs_of rfl) rfl rfl rfl (evl_e (e_alloc ttOk rfl rfl rfl rfl) (xst ttOk rfl rfl (nl (et (sq (sq (rg (xl ttOk rfl rfl (xm rfl rfl (evl_call (nm := 17) (cf rfl) (c_l3Has d _) (rs_of rfl) rfl rfl rfl (xo (q_not rfl) rfl (xm rfl rfl (evl_partn rfl rfl (fun h2 => ?_) (fun h2 => ?_)))))))))))))))))))
 try have d2 := of_decide_eq_false h2
 refine gn (nt h2) rfl rfl rfl (gn (nt h2) rfl rfl rfl (gn (nt h2) rfl rfl rfl (xo (q_pick_t rfl (nt h2) rfl) rfl (xm rfl rfl (gn rfl rfl rfl rfl (gn rfl rfl rfl rfl (gn rfl rfl rfl rfl (gn rfl rfl rfl rfl (xo (q_pick_t rfl rfl rfl) rfl (nl (et (ev_cond_kt rfl rfl (sq (rg (xl ttOk rfl rfl (xst ttOk rfl rfl (xs rfl rfl (nl (et (ev_ret (evr_then (ret_pureN ttOk rfl rfl ?_))))))))))))))))))))))
 rotate_left
 try have d2 := of_decide_eq_true h2
 refine gm (nf h2) rfl rfl rfl rfl (evl_callg rfl rfl (nf h2) (nm := 21) (cf rfl) (c_RowOk _) (rs_of rfl) rfl rfl rfl (go (nf h2) rfl rfl (q_not rfl) rfl (xo (q_pick_f rfl (nf h2) rfl) rfl (xm rfl rfl (evl_partn rfl rfl (fun h3 => ?_) (fun h3 => ?_))))))
 try have d3 := of_decide_eq_false h3
 refine gn (nt h3) rfl rfl rfl (gn (nt h3) rfl rfl rfl (gn (nt h3) rfl rfl rfl (gn (nt h3) rfl rfl rfl (xo (q_pick_t rfl (nt h3) rfl) rfl (nl (et (ev_cond_kt rfl rfl (sq (rg (xl ttOk rfl rfl (xst ttOk rfl rfl (xs rfl rfl (nl (et (ev_ret (evr_then (ret_pureN ttOk rfl rfl ?_)))))))))))))))))
 rotate_left
 try have d3 := of_decide_eq_true h3
 have hr := (rowOk_nums h3).1
 refine go (nf h3) rfl rfl (q_fieldAddr ttOk rfl) rfl (go (nf h3) rfl rfl (q_load ttOk rfl) rfl (go (nf h3) rfl rfl (q_len_map ttOk rfl rfl) rfl (go (nf h3) rfl rfl (q_bin ttOk rfl) rfl (xo (q_pick_f rfl (nf h3) rfl) rfl (nl (et (ev_cond rfl (fun h4 => ?_) (fun h4 => ?_))))))))
 try have d4 := of_decide_eq_true h4
 refine sq (rg (xl ttOk rfl rfl (xst ttOk rfl rfl (xs rfl rfl (nl (et (ev_ret (evr_then (ret_pureN ttOk rfl rfl ?_)))))))))
 rotate_left
 try have d4 := of_decide_eq_false h4
 refine ev_skip (et (sq (ev_drawq [7, 9] mo (rk0 0 rfl (q_fieldAddr ttOk rfl) rfl (rk0 1 rfl (q_load ttOk rfl) rfl (rk0 2 rfl (q_move rfl) rfl (rk0 3 rfl (q_move rfl) rfl (rdk_one 4 kr (rdo_call (nm := 35) rfl trivial (cf rfl) (c_l1Copy _ om) (rs_of rfl) rfl rfl rfl (rk0 5 rfl (q_build ttOk rfl) rfl (rdk_one 6 kr (rdo_new rfl trivial (e_lit ttOk rfl rfl rfl) (rdk_one 7 kr (rdo_brk rfl rfl trivial (e_app ttOk rfl rfl rfl rfl rfl rfl rfl (by simp; omega) rfl rfl) (rdb_q 8 rfl kr trivial (q_fieldAddr ttOk rfl) rfl (rdb_eff 9 rfl kr trivial (e_store ttOk rfl) (rdb_endq kr (et (ev_pr [6, 7, 8, 40] rfl (sq (rg (xl ttOk rfl rfl (xst ttOk rfl rfl (xs rfl rfl (nl (et (ev_ret (ret_pureN ttOk rfl rfl ?_))))))))))))))))))))))))))))
 rotate_left
 all_goals
  first
  | (rw [wrote_no ‹_›]; simp [RpLe, L2, RcLe, zeroD]; done)
  | (rw [wrote_fail ‹_› (wroteOk1 ‹_›)]; simp [RpLe, L2, RcLe]; done)
  | (rw [wrote_fail ‹_› (wroteOk2 ‹_›)]; simp [RpLe, L2, RcLe]; done)
  | (rw [wrote_fail ‹_› (wroteOk3 om)]; simp [RpLe, L2, RcLe]; done)
  | (rw [wrote_yes ‹_› (by simp only [wroteOk, Bool.and_eq_true, decide_eq_true_eq]; exact ⟨by assumption, by assumption, by omega⟩)]; simp [RpLe, L2, RcLe]; done)
theorem c_Wrote' (d : Disk) (x : Int) (row : List Int) : Pure Tryz.prog 87 [many (diskC d), one (iC x), one (ints row)] [many' (diskR ((wroteF d x row).1)), one' (RC.v (.bool ((wroteF d x row).2)))] := by
 refine pure_intro (N := 41) Tryz.func87 rfl rfl rfl rfl (fun H w => ?_)
 refine sq (rg (evl_e (e_box rfl rfl rfl rfl) (evl_e (e_alloc ttOk rfl rfl rfl rfl) (xs rfl rfl (nl (et (sq (sq (rg (xl ttOk rfl rfl (evl_call (nm := 10) (cf rfl) (c_DiskOk' d) (rs_of rfl) rfl rfl rfl (xo (q_not rfl) rfl (nl (et (ev_cond_n rfl (fun h1 => ?_) (fun h1 => ?_))))))))))))))))
 try have d1 := of_decide_eq_false h1
 refine sq (rg (xo (q_build ttOk rfl) rfl (xst ttOk rfl rfl (xs rfl rfl (nl (et (ev_ret (evr_then (ret_pureN ttOk rfl rfl ?_)))))))))
 rotate_left
 try have d1 := of_decide_eq_true h1
 have hs := diskOk_sizes h1
 refine ev_skip (et (sq (rg (xl ttOk rfl rfl (evl_call (nm := 14) (cf rfl) (c_copyDisk d ‹_›) (rs_of rfl) rfl rfl rfl (evl_e (e_alloc ttOk rfl rfl rfl rfl) (xst ttOk rfl rfl (nl (et (sq (sq (rg (xl ttOk rfl rfl (xm rfl rfl (evl_call (nm := 17) (cf rfl) (c_sectorOk d _) (rs_of rfl) rfl rfl rfl (xo (q_not rfl) rfl (xm rfl rfl (evl_partn rfl rfl (fun h2 => ?_) (fun h2 => ?_)))))))))))))))))))
 try have d2 := of_decide_eq_false h2
 refine gn (nt h2) rfl rfl rfl (gn (nt h2) rfl rfl rfl (gn (nt h2) rfl rfl rfl (xo (q_pick_t rfl (nt h2) rfl) rfl (xm rfl rfl (gn rfl rfl rfl rfl (gn rfl rfl rfl rfl (gn rfl rfl rfl rfl (gn rfl rfl rfl rfl (xo (q_pick_t rfl rfl rfl) rfl (nl (et (ev_cond_kt rfl rfl (sq (rg (xl ttOk rfl rfl (xst ttOk rfl rfl (xs rfl rfl (nl (et (ev_ret (evr_then (ret_pureN ttOk rfl rfl ?_))))))))))))))))))))))
 rotate_left
 try have d2 := of_decide_eq_true h2
 refine gm (nf h2) rfl rfl rfl rfl (evl_callg rfl rfl (nf h2) (nm := 21) (cf rfl) (c_RowOk' _) (rs_of rfl) rfl rfl rfl (go (nf h2) rfl rfl (q_not rfl) rfl (xo (q_pick_f rfl (nf h2) rfl) rfl (xm rfl rfl (evl_partn rfl rfl (fun h3 => ?_) (fun h3 => ?_))))))
 try have d3 := of_decide_eq_false h3
 refine gn (nt h3) rfl rfl rfl (gn (nt h3) rfl rfl rfl (gn (nt h3) rfl rfl rfl (gn (nt h3) rfl rfl rfl (xo (q_pick_t rfl (nt h3) rfl) rfl (nl (et (ev_cond_kt rfl rfl (sq (rg (xl ttOk rfl rfl (xst ttOk rfl rfl (xs rfl rfl (nl (et (ev_ret (evr_then (ret_pureN ttOk rfl rfl ?_)))))))))))))))))
 rotate_left
 try have d3 := of_decide_eq_true h3
 have hr := (rowOk_nums h3).1
 refine go (nf h3) rfl rfl (q_fieldAddr ttOk rfl) rfl (go (nf h3) rfl rfl (q_load ttOk rfl) rfl (go (nf h3) rfl rfl (q_len_map ttOk rfl rfl) rfl (go (nf h3) rfl rfl (q_bin ttOk rfl) rfl (xo (q_pick_f rfl (nf h3) rfl) rfl (nl (et (ev_cond rfl (fun h4 => ?_) (fun h4 => ?_))))))))
 try have d4 := of_decide_eq_true h4
 refine sq (rg (xl ttOk rfl rfl (xst ttOk rfl rfl (xs rfl rfl (nl (et (ev_ret (evr_then (ret_pureN ttOk rfl rfl ?_)))))))))
 rotate_left
 try have d4 := of_decide_eq_false h4
 refine ev_skip (et (sq (ev_drawq [7, 9] mo (rk0 0 rfl (q_fieldAddr ttOk rfl) rfl (rk0 1 rfl (q_load ttOk rfl) rfl (rk0 2 rfl (q_move rfl) rfl (rk0 3 rfl (q_move rfl) rfl (rdk_one 4 kr (rdo_call (nm := 35) rfl trivial (cf rfl) (c_copyRow _ om) (rs_of rfl) rfl rfl rfl (rk0 5 rfl (q_build ttOk rfl) rfl (rdk_one 6 kr (rdo_new rfl trivial (e_lit ttOk rfl rfl rfl) (rdk_one 7 kr (rdo_brk rfl rfl trivial (e_app ttOk rfl rfl rfl rfl rfl rfl rfl (by simp; omega) rfl rfl) (rdb_q 8 rfl kr trivial (q_fieldAddr ttOk rfl) rfl (rdb_eff 9 rfl kr trivial (e_store ttOk rfl) (rdb_endq kr (et (ev_pr [6, 7, 8, 40] rfl (sq (rg (xl ttOk rfl rfl (xst ttOk rfl rfl (xs rfl rfl (nl (et (ev_ret (ret_pureN ttOk rfl rfl ?_))))))))))))))))))))))))))))
 rotate_left
 all_goals
  first
  | (rw [wrote_no ‹_›]; simp [RpLe, L2, RcLe, zeroD]; done)
  | (rw [wrote_fail ‹_› (wroteOk1 ‹_›)]; simp [RpLe, L2, RcLe]; done)
  | (rw [wrote_fail ‹_› (wroteOk2 ‹_›)]; simp [RpLe, L2, RcLe]; done)
  | (rw [wrote_fail ‹_› (wroteOk3 om)]; simp [RpLe, L2, RcLe]; done)
  | (rw [wrote_yes ‹_› (by simp only [wroteOk, Bool.and_eq_true, decide_eq_true_eq]; exact ⟨by assumption, by assumption, by omega⟩)]; simp [RpLe, L2, RcLe]; done)
theorem c_NewDisk (x : Int) : Pure Tryz.prog 76 [one (iC x)] [many' (diskR (newDiskF x))] := by
 refine pure_intro (N := 10) Tryz.func76 rfl rfl rfl rfl (fun H w => ?_)
 refine sq (rg (evl_e (e_alloc ttOk rfl rfl rfl rfl) (nl (et (sq (sq (rg (xm rfl rfl (evl_call (nm := 4) (cf rfl) (c_l1In _ _ _) (rs_of rfl) rfl rfl rfl (xo (q_not rfl) rfl (nl (et (ev_cond_n rfl (fun h1 => ?_) (fun h1 => ?_))))))))))))))
 ·have hx : ¬ (1 ≤ x ∧ x ≤ 40) := by simpa [inB] using h1
  refine sq (rg (xo (q_build ttOk rfl) rfl (xst ttOk rfl rfl (nl (et (ev_ret (evr_then (ret_pureN ttOk rfl rfl ?_))))))))
  rw [show newDiskF x = zeroD by simp only [newDiskF]; rw [if_neg hx]]; simp [RpLe, L2, RcLe, zeroD]
 ·have hx : 1 ≤ x ∧ x ≤ 40 := by simpa [inB] using h1
  refine ev_skip (et (sq (rg (xm rfl rfl (evl_e (e_make (m := x.toNat) ttOk rfl rfl rfl rfl rfl om om om rfl rfl) (xo (q_build ttOk rfl) rfl (xst ttOk rfl rfl (nl (et (ev_nils (r := 8) (m := 1) (l' := (List.replicate x.toNat ([] : List Int)).map fun r => [ints r]) rfl (by simp [nilTo]) rfl (ev_ret (ret_pureN ttOk rfl rfl ?_))))))))))))
  rw [show newDiskF x = ⟨List.replicate x.toNat [], []⟩ by simp only [newDiskF]; rw [if_pos hx]]; simp [RpLe, L2, RcLe]
theorem c_NewTwo (x : Int) : Pure Tryz.prog 75 [one (iC x)] [many' (twoR (newTwoF x))] := by
 refine pure_intro (N := 8) Tryz.func75 rfl rfl rfl rfl (fun H w => ?_)
 refine sq (rg (evl_e (e_alloc ttOk rfl rfl rfl rfl) (nl (et (sq (rg (xm rfl rfl (evl_call (nm := 4) (cf rfl) (c_NewDisk _) (rs_of rfl) rfl rfl rfl (xm rfl rfl (evl_call (nm := 6) (cf rfl) (c_NewDisk _) (rs_of rfl) rfl rfl rfl (xo (q_build ttOk rfl) rfl (xst ttOk rfl rfl (nl (et (ev_ret (ret_pure' ttOk rfl rfl ?_))))))))))))))))
 rfl
theorem c_BothWrote (t : Two) (x : Int) (row : List Int) : Pure Tryz.prog 130 [many (twoC t), one (iC x), one (ints row)] [many' (twoR ((bothWroteF t x row).1)), one' (RC.v (.bool ((bothWroteF t x row).2)))] := by
 refine pure_intro (N := 51) Tryz.func130 rfl rfl rfl rfl (fun H w => ?_)
 have hsl := withSum_len (l := row)
 refine sq (rg (evl_e (e_box rfl rfl rfl rfl) (evl_e (e_alloc ttOk rfl rfl rfl rfl) (xs rfl rfl (nl (et (sq (sq (rg (xl ttOk rfl rfl (evl_call (nm := 14) (cf rfl) (c_TwoOk t) (rs_of rfl) rfl rfl rfl (xo (q_not rfl) rfl (nl (et (ev_cond_n rfl (fun h1 => ?_) (fun h1 => ?_))))))))))))))))
 ·refine sq (rg (xo (q_build ttOk rfl) rfl (xst ttOk rfl rfl (xs rfl rfl (nl (et (ev_ret (evr_then (ret_pureN ttOk rfl rfl ?_)))))))))
  first
  | (rw [both_no ‹_›]; simp [RpLe, L2, RcLe, zeroD, zeroT]; done)
  | (rw [both_yes ‹_› ‹_› ‹_› ‹_›]; simp [RpLe, L2, RcLe]; done)
  | (rw [both_fail ‹_› (by simp_all; done)]; simp [RpLe, L2, RcLe]; done)
  | (exfalso; simp_all; done)
 ·obtain ⟨hka, hkb⟩ := twoOk_both h1
  refine ev_skip (et (sq (rg (xm rfl rfl (evl_call (nm := 18) (cf rfl) (c_WithSum row) (rs_of rfl) rfl rfl rfl (xs rfl rfl (nl (et (sq (rg (xf ttOk rfl rfl (xl ttOk rfl rfl (xm rfl rfl (xm rfl rfl ?_))))))))))))))
  first | refine evl_call (nm := 24) (cf rfl) (c_Wrote t.a x (withSumF row)) (rs_of rfl) rfl rfl rfl ?_ | refine evl_call (nm := 24) (cf rfl) (c_Wrote t.b x (withSumF row)) (rs_of rfl) rfl rfl rfl ?_
  refine xm rfl rfl (xo (q_ext rfl) rfl (xo (q_ext rfl) rfl (evl_e (e_alloc ttOk rfl rfl rfl rfl) (xst ttOk rfl rfl (xs rfl rfl (nl (et (sq (rg (xf ttOk rfl rfl (xl ttOk rfl rfl (xm rfl rfl (xm rfl rfl ?_)))))))))))))
  first | refine evl_call (nm := 32) (cf rfl) (c_Wrote t.a x (withSumF row)) (rs_of rfl) rfl rfl rfl ?_ | refine evl_call (nm := 32) (cf rfl) (c_Wrote t.b x (withSumF row)) (rs_of rfl) rfl rfl rfl ?_
  refine xm rfl rfl (xo (q_ext rfl) rfl (xo (q_ext rfl) rfl (evl_e (e_alloc ttOk rfl rfl rfl rfl) (xst ttOk rfl rfl (xs rfl rfl (nl (et (sq (sq (rg (xm rfl rfl (xo (q_len_rtm ttOk rfl rfl rfl) rfl (xb ttOk rfl rfl (xm rfl rfl (evl_part rfl rfl (fun h2 => ?_) (fun h2 => ?_))))))))))))))))
  ·have hcs : canSum row = false := by have := hsl.2; cases hc : canSum row <;> simp_all
   refine gn h2 rfl rfl rfl (gn h2 rfl rfl rfl (xo (q_pick_t rfl h2 rfl) rfl (xm rfl rfl (gn rfl rfl rfl rfl (gn rfl rfl rfl rfl (xo (q_pick_t rfl rfl rfl) rfl (nl (et (ev_cond_kt rfl rfl (sq (rg (xl ttOk rfl rfl (evl_call (nm := 47) (cf rfl) (c_l4Copy t ‹_›) (rs_of rfl) rfl rfl rfl (xst ttOk rfl rfl (xs rfl rfl (nl (et (ev_ret (evr_then (ret_pureN ttOk rfl rfl ?_))))))))))))))))))))
   first
   | (rw [both_no ‹_›]; simp [RpLe, L2, RcLe, zeroD, zeroT]; done)
   | (rw [both_yes ‹_› ‹_› ‹_› ‹_›]; simp [RpLe, L2, RcLe]; done)
   | (rw [both_fail ‹_› (by simp_all; done)]; simp [RpLe, L2, RcLe]; done)
   | (exfalso; simp_all; done)
  ·have hcs : canSum row = true := by have := hsl.2; cases hc : canSum row <;> simp_all
   refine gm h2 rfl rfl rfl rfl (go h2 rfl rfl (q_not rfl) rfl (xo (q_pick_f rfl h2 rfl) rfl (xm rfl rfl (evl_partn rfl rfl (fun h3 => ?_) (fun h3 => ?_)))))
   ·refine gn (nt h3) rfl rfl rfl (gn (nt h3) rfl rfl rfl (xo (q_pick_t rfl (nt h3) rfl) rfl (nl (et (ev_cond_kt rfl rfl (sq (rg (xl ttOk rfl rfl (evl_call (nm := 47) (cf rfl) (c_l4Copy t ‹_›) (rs_of rfl) rfl rfl rfl (xst ttOk rfl rfl (xs rfl rfl (nl (et (ev_ret (evr_then (ret_pureN ttOk rfl rfl ?_))))))))))))))))
    first
    | (rw [both_no ‹_›]; simp [RpLe, L2, RcLe, zeroD, zeroT]; done)
    | (rw [both_yes ‹_› ‹_› ‹_› ‹_›]; simp [RpLe, L2, RcLe]; done)
    | (rw [both_fail ‹_› (by simp_all; done)]; simp [RpLe, L2, RcLe]; done)
    | (exfalso; simp_all; done)
   ·refine gm (nf h3) rfl rfl rfl rfl (go (nf h3) rfl rfl (q_not rfl) rfl (xo (q_pick_f rfl (nf h3) rfl) rfl (nl (et (ev_cond_n rfl (fun h4 => ?_) (fun h4 => ?_))))))
    ·refine sq (rg (xl ttOk rfl rfl (evl_call (nm := 47) (cf rfl) (c_l4Copy t ‹_›) (rs_of rfl) rfl rfl rfl (xst ttOk rfl rfl (xs rfl rfl (nl (et (ev_ret (evr_then (ret_pureN ttOk rfl rfl ?_))))))))))
     first
     | (rw [both_no ‹_›]; simp [RpLe, L2, RcLe, zeroD, zeroT]; done)
     | (rw [both_yes ‹_› ‹_› ‹_› ‹_›]; simp [RpLe, L2, RcLe]; done)
     | (rw [both_fail ‹_› (by simp_all; done)]; simp [RpLe, L2, RcLe]; done)
     | (exfalso; simp_all; done)
    ·refine ev_skip (et (sq (rg (xl ttOk rfl rfl (xl ttOk rfl rfl (xo (q_build ttOk rfl) rfl (xst ttOk rfl rfl (xs rfl rfl (nl (et (ev_ret (ret_pureN ttOk rfl rfl ?_))))))))))))
     first
     | (rw [both_no ‹_›]; simp [RpLe, L2, RcLe, zeroD, zeroT]; done)
     | (rw [both_yes ‹_› ‹_› ‹_› ‹_›]; simp [RpLe, L2, RcLe]; done)
     | (rw [both_fail ‹_› (by simp_all; done)]; simp [RpLe, L2, RcLe]; done)
     | (exfalso; simp_all; done)
end Go.Proofs.YtahkjonokeifmaaGreat
