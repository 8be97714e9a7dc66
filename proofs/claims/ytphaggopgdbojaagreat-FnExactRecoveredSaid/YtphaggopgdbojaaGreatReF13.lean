/- Walks of functions of the program, printed by a program of the prover. -/
import Derived.Test.YtphaggopgdbojaaGreatReF10
namespace Go.Proofs.YtphaggopgdbojaaGreat
open Go.ChangeShapes Go.WideShapes Go.ChangeAt Go.RowKit
set_option linter.unusedVariables false
set_option linter.unusedSimpArgs false
set_option maxHeartbeats 1000000
set_option maxRecDepth 100000
attribute [local irreducible] EvL Ev EvE Quiet Eff Pure RDk RDb RDo
theorem rs_sub {S : St} {x : Operand} {r n k j ty : Nat} {l : List (List C)} {cs : List C} {y : C} (hx : opv S.T x = some (.p false [.sub r n k j])) (hr : lk S.R r = some (ty, n, l)) (hk : l[k]? = some cs) (hj : cs[j]? = some y) : RsA S [x] [(false, [y])] := ⟨⟨_, hx, ⟨ty, l, cs, hr, hk, hj⟩, trivial⟩, trivial⟩
theorem get_map {α β : Type} {f : α → β} {L : List α} {k : Nat} (hk : k < L.length) : (L.map f)[k]? = some (f L[k]) := by rw [List.getElem?_map, List.getElem?_eq_getElem hk]; rfl
def headStep (x : Int) (acc : Head × Bool) (row : List Int) : Head × Bool := if (rowHeadF row).isSome = true ∧ ((rowHeadF row).getD noHead).num % 2 = x ∧ (acc.2 = false ∨ ((rowHeadF row).getD noHead).num > acc.1.num) then ((rowHeadF row).getD noHead, true) else acc
def headUp (t : Two) : Nat → Head × Bool
  | 0 => (noHead, false)
  | k + 1 => (rightF t k).foldl (headStep k) (headUp t k)
def headIn (t : Two) : Head × Bool := if keptOk t then headUp t 2 else (noHead, false)
theorem rowHead_nn {l : List Int} (h : (rowHeadF l).isSome = true) : 0 ≤ ((rowHeadF l).getD noHead).num := by
  unfold rowHeadF at *
  split at h
  · rename_i hh
    rw [if_pos hh]
    have := hh.2.1
    simp only [headOk, inB, Bool.and_eq_true, decide_eq_true_eq] at this
    exact this.2.1.1
  · cases h
theorem rightF_len (t : Two) (x : Int) : (rightF t x).length ≤ 2 := by
  unfold rightF rightOf
  split
  · cases uns (readF t.a x) <;> cases uns (readF t.b x) <;> simp
    split <;> simp
  · simp
theorem fold_next {α β : Type} {f : α → β → α} {a : α} {l : List β} {j : Nat} {s s' : α} (hj : j < l.length) (h : s = (l.take j).foldl f a) (h2 : s' = f s l[j]) : s' = (l.take (j + 1)).foldl f a := by
  rw [List.take_succ_eq_append_getElem hj, List.foldl_append, ← h, h2]; rfl
theorem fold_all {α β : Type} {f : α → β → α} {a : α} {l : List β} {j : Nat} {s : α} (hj : ¬ j < l.length) (h : s = (l.take j).foldl f a) : s = l.foldl f a := by rw [h, List.take_of_length_le (by omega)]
theorem c_HeadIn (t : Two) : Pure Tryz.prog 91 [many (twoC t)] [many' (headR (headIn t).1), one' (RC.v (.bool (headIn t).2))] := by
 refine pure_intro (N := 59) Tryz.func91 rfl rfl rfl rfl (fun H w => ?_)
 refine sq (rg (evl_e (e_box rfl rfl rfl rfl) (evl_e (e_alloc ttOk rfl rfl rfl rfl) (xs rfl rfl (nl (et (sq (rg (xo (q_build ttOk rfl) rfl (evl_e (e_alloc ttOk rfl rfl rfl rfl) (xst ttOk rfl rfl (nl (et (sq (rg (xs rfl rfl (nl (et (sq (sq (rg ?_)))))))))))))))))))))
 first | refine xo (q_load_pr ttOk rfl rfl rfl rfl (get_map (by omega)) rfl rfl) rfl ?_ | refine xl ttOk rfl rfl ?_
 refine evl_call (nm := 13) (cf rfl) (c_KeptOk ⟨⟨_, _⟩, ⟨_, _⟩⟩) (rs_of rfl) rfl rfl rfl (xo (q_not rfl) rfl (nl (et (ev_cond_n rfl (fun h1 => ?_) (fun h1 => ?_)))))
 · try have d1 := of_decide_eq_false h1
   try have hnn := rowHead_nn h1
   refine sq (rg ?_)
   first | refine xo (q_load_pr ttOk rfl rfl rfl rfl (get_map (by omega)) rfl rfl) rfl ?_ | refine xl ttOk rfl rfl ?_
   refine xst ttOk rfl rfl (xs rfl rfl (nl (et (ev_ret (evr_then (ret_pureN ttOk rfl rfl ?_))))))
   rw [show headIn t = (noHead, false) by simp [headIn, show keptOk t = false from h1]]; simp [RpLe, L2, RcLe, noHead]
 · try have d1 := of_decide_eq_true h1
   try have hnn := rowHead_nn h1
   refine ev_skip (et (sq (sq (ev_adopt (b := 4) 3 101 148 3 rfl rfl rfl rfl rfl (rg (xs rfl rfl (nl (et (ev_blk (ev_loop (fun i : Nat × Head × Bool => (⟨[(6, iV i.1), (1, pbV 1 0), (2, pbV 2 0), (3, bV false), (4, pbV 4 0), (5, bV i.2.2)], [(4, 45, [.c (iC i.2.1.num), .c (iC i.2.1.base), .c (iC i.2.1.time), .rt 101]), (2, 45, [.c (iC 0), .c (iC 0), .c (iC 0), .c .nil]), (1, 42, [.c (rows t.a.kept), .c (writes t.a.wait), .c (rows t.b.kept), .c (writes t.b.wait)])], [(101, 148, 3, (i.2.1.seen.map markC))], []⟩ : St)) (fun i => i.1 ≤ 2 ∧ (i.2.1, i.2.2) = headUp t i.1) (fun i => 2 - i.1) (0, noHead, false) [] (⟨by simp, rfl⟩) ⟨by (repeat first | exact trivial | refine ⟨rfl, ?_⟩), by (repeat first | exact trivial | refine ⟨rfl, ?_⟩), ⟨⟨_, rfl, by rfl⟩, trivial⟩, by (repeat first | exact trivial | refine ⟨⟨_, rfl, rfl⟩, ?_⟩), rfl⟩ ?_))))))))))
   intro i hp
   obtain ⟨k, best, fd⟩ := i
   have hp : k ≤ 2 ∧ (best, fd) = headUp t k := hp
   obtain ⟨p0, p1⟩ := hp
   show Ev _ _ _ _ (⟨[(6, iV k), (1, pbV 1 0), (2, pbV 2 0), (3, bV false), (4, pbV 4 0), (5, bV fd)], [(4, 45, [.c (iC best.num), .c (iC best.base), .c (iC best.time), .rt 101]), (2, 45, [.c (iC 0), .c (iC 0), .c (iC 0), .c .nil]), (1, 42, [.c (rows t.a.kept), .c (writes t.a.wait), .c (rows t.b.kept), .c (writes t.b.wait)])], [(101, 148, 3, (best.seen.map markC))], []⟩ : St)
   refine sq (sq (rg (xm rfl rfl (xb ttOk rfl rfl (nl (et (ev_cond rfl (fun h2 => ?_) (fun h2 => ?_))))))))
   · try have d2 := of_decide_eq_true h2
     try have hnn := rowHead_nn h2
     refine ev_skip (et (sq (ev_blk (sq (rg ?_)))))
     first | refine xo (q_load_pr ttOk rfl rfl rfl rfl (get_map (by omega)) rfl rfl) rfl ?_ | refine xl ttOk rfl rfl ?_
     refine xm rfl rfl (evl_call (nm := 22) (cf rfl) (c_RightAt t _) (rs_of rfl) rfl rfl rfl (xs rfl rfl (nl (et (sq ?_)))))
     have hrl := rightF_len t k
     refine rg (xs rfl rfl (nl (et (ev_blk (ev_loop (fun i : Nat × Head × Bool => (⟨[(8, iV i.1), (7, .p false [.rt 102]), (6, iV k), (1, pbV 1 0), (2, pbV 2 0), (3, bV false), (4, pbV 4 0), (5, bV i.2.2)], [(4, 45, [.c (iC i.2.1.num), .c (iC i.2.1.base), .c (iC i.2.1.time), .rt 101]), (2, 45, [.c (iC 0), .c (iC 0), .c (iC 0), .c .nil]), (1, 42, [.c (rows t.a.kept), .c (writes t.a.wait), .c (rows t.b.kept), .c (writes t.b.wait)])], [(101, 148, 3, (i.2.1.seen.map markC)), (102, 72, 1, ((rightF t k).map fun r => [ints r]))], []⟩ : St)) (fun i => i.1 ≤ (rightF t k).length ∧ (i.2.1, i.2.2) = ((rightF t k).take i.1).foldl (headStep k) (best, fd)) (fun i => (rightF t k).length - i.1) (0, best, fd) [(102, 22)] (⟨by simp, rfl⟩) ⟨by (repeat first | exact trivial | refine ⟨rfl, ?_⟩), by (repeat first | exact trivial | refine ⟨rfl, ?_⟩), ⟨⟨_, rfl, by rfl⟩, ⟨_, rfl, by rfl⟩, trivial⟩, by (repeat first | exact trivial | refine ⟨⟨_, rfl, rfl⟩, ?_⟩), rfl⟩ ?_)))))
     intro i hp
     obtain ⟨j, b2, f2⟩ := i
     have hp : j ≤ (rightF t k).length ∧ (b2, f2) = ((rightF t k).take j).foldl (headStep k) (best, fd) := hp
     obtain ⟨q0, q1⟩ := hp
     show Ev _ _ _ _ (⟨[(8, iV j), (7, .p false [.rt 102]), (6, iV k), (1, pbV 1 0), (2, pbV 2 0), (3, bV false), (4, pbV 4 0), (5, bV f2)], [(4, 45, [.c (iC b2.num), .c (iC b2.base), .c (iC b2.time), .rt 101]), (2, 45, [.c (iC 0), .c (iC 0), .c (iC 0), .c .nil]), (1, 42, [.c (rows t.a.kept), .c (writes t.a.wait), .c (rows t.b.kept), .c (writes t.b.wait)])], [(101, 148, 3, (b2.seen.map markC)), (102, 72, 1, ((rightF t k).map fun r => [ints r]))], []⟩ : St)
     refine sq (sq (rg (xm rfl rfl (xm rfl rfl (xo (q_len_rtm ttOk rfl rfl rfl) rfl (xb ttOk rfl rfl (nl (et (ev_cond rfl (fun h3 => ?_) (fun h3 => ?_))))))))))
     · try have d3 := of_decide_eq_true h3
       try have hnn := rowHead_nn h3
       refine ev_skip (et (sq (ev_blk (sq (rg (xm rfl rfl (xm rfl rfl (xo (q_ix_rt (m := j) ttOk rfl rfl rfl rfl rfl rfl (by simp; omega)) rfl ?_))))))))
       first | refine xo (q_load_pr ttOk rfl rfl rfl rfl (get_map (by omega)) rfl rfl) rfl ?_ | refine xl ttOk rfl rfl ?_
       refine evl_call (nm := 34) (cf rfl) (c_RowHead _) (rs_sub rfl rfl (get_map (by omega)) rfl) rfl rfl rfl (xm rfl rfl (xo (q_ext rfl) rfl (xo (q_ext rfl) rfl (evl_e (e_alloc ttOk rfl rfl rfl rfl) (xst ttOk rfl rfl (xs rfl rfl (nl (et (sq (rg (xm rfl rfl (xm rfl rfl (evl_part rfl rfl (fun h4 => ?_) (fun h4 => ?_))))))))))))))
       · try have d4 := of_decide_eq_true h4
         try have hnn := rowHead_nn h4
         refine go h4 rfl rfl (q_fieldAddr ttOk rfl) rfl ?_
         first | refine go h4 rfl rfl (q_load_pr ttOk rfl rfl rfl rfl (get_map (by omega)) rfl rfl) rfl ?_ | refine go h4 rfl rfl (q_load ttOk rfl) rfl ?_
         first | refine go h4 rfl rfl (q_rem_pos rfl rfl (by omega)) rfl ?_ | refine go h4 rfl rfl (q_rem rfl rfl (by omega)) rfl ?_
         refine gm h4 rfl rfl rfl rfl (go h4 rfl rfl (q_bin ttOk rfl) rfl (xo (q_pick_t rfl h4 rfl) rfl (xm rfl rfl (evl_part rfl rfl (fun h5 => ?_) (fun h5 => ?_)))))
         · try have d5 := of_decide_eq_true h5
           try have hnn := rowHead_nn h5
           refine gm h5 rfl rfl rfl rfl (go h5 rfl rfl (q_not rfl) rfl (gm h5 rfl rfl rfl rfl (evl_partn rfl rfl (fun h6 => ?_) (fun h6 => ?_))))
           · try have d6 := of_decide_eq_false h6
             try have hnn := rowHead_nn h6
             refine gn (nt h6) rfl rfl rfl (gn (nt h6) rfl rfl rfl (gn (nt h6) rfl rfl rfl (gn (nt h6) rfl rfl rfl (gn (nt h6) rfl rfl rfl (go h5 rfl rfl (q_pick_t rfl (nt h6) rfl) rfl (xo (q_pick_t rfl h5 rfl) rfl (nl (et (ev_cond_kt rfl rfl (sq (rg ?_)))))))))))
             first | refine xo (q_load_pr ttOk rfl rfl rfl rfl (get_map (by omega)) rfl rfl) rfl ?_ | refine xl ttOk rfl rfl ?_
             refine xst ttOk rfl rfl (nl (et (rg (xs rfl rfl (nl (eb (et (rg (xm rfl rfl (xa rfl rfl rfl (by omega) rfl (xs rfl rfl (nl (eve_round (j + 1, (rowHeadF (rightF t k)[j]).getD noHead, true) [(101, 34)] ?hp ⟨by (repeat first | exact trivial | refine ⟨rfl, ?_⟩), by (repeat first | exact trivial | refine ⟨rfl, ?_⟩), ⟨⟨_, rfl, rfl⟩, ⟨_, rfl, rfl⟩, trivial⟩, by (repeat first | exact trivial | refine ⟨⟨_, rfl, rfl⟩, ?_⟩), rfl⟩)))))))))))))
             case hp => exact ⟨⟨by omega, fold_next (by omega) q1 (by simp_all [headStep] <;> (intros; omega))⟩, by omega⟩
           · try have d6 := of_decide_eq_true h6
             try have hnn := rowHead_nn h6
             refine go (nf h6) rfl rfl (q_fieldAddr ttOk rfl) rfl ?_
             first | refine go (nf h6) rfl rfl (q_load_pr ttOk rfl rfl rfl rfl (get_map (by omega)) rfl rfl) rfl ?_ | refine go (nf h6) rfl rfl (q_load ttOk rfl) rfl ?_
             refine go (nf h6) rfl rfl (q_fieldAddr ttOk rfl) rfl ?_
             first | refine go (nf h6) rfl rfl (q_load_pr ttOk rfl rfl rfl rfl (get_map (by omega)) rfl rfl) rfl ?_ | refine go (nf h6) rfl rfl (q_load ttOk rfl) rfl ?_
             refine go (nf h6) rfl rfl (q_bin ttOk rfl) rfl (go h5 rfl rfl (q_pick_f rfl (nf h6) rfl) rfl (xo (q_pick_t rfl h5 rfl) rfl (nl (et (ev_cond rfl (fun h7 => ?_) (fun h7 => ?_))))))
             · try have d7 := of_decide_eq_true h7
               try have hnn := rowHead_nn h7
               refine sq (rg ?_)
               first | refine xo (q_load_pr ttOk rfl rfl rfl rfl (get_map (by omega)) rfl rfl) rfl ?_ | refine xl ttOk rfl rfl ?_
               refine xst ttOk rfl rfl (nl (et (rg (xs rfl rfl (nl (eb (et (rg (xm rfl rfl (xa rfl rfl rfl (by omega) rfl (xs rfl rfl (nl (eve_round (j + 1, (rowHeadF (rightF t k)[j]).getD noHead, true) [(101, 34)] ?hp ⟨by (repeat first | exact trivial | refine ⟨rfl, ?_⟩), by (repeat first | exact trivial | refine ⟨rfl, ?_⟩), ⟨⟨_, rfl, rfl⟩, ⟨_, rfl, rfl⟩, trivial⟩, by (repeat first | exact trivial | refine ⟨⟨_, rfl, rfl⟩, ?_⟩), rfl⟩)))))))))))))
               case hp => exact ⟨⟨by omega, fold_next (by omega) q1 (by simp_all [headStep] <;> (intros; omega))⟩, by omega⟩
             · try have d7 := of_decide_eq_false h7
               try have hnn := rowHead_nn h7
               refine ev_skip (eb (et (rg (xm rfl rfl (xa rfl rfl rfl (by omega) rfl (xs rfl rfl (nl (eve_round (j + 1, b2, f2) [] ?hp ⟨by (repeat first | exact trivial | refine ⟨rfl, ?_⟩), by (repeat first | exact trivial | refine ⟨rfl, ?_⟩), ⟨⟨_, rfl, rfl⟩, ⟨_, rfl, rfl⟩, trivial⟩, by (repeat first | exact trivial | refine ⟨⟨_, rfl, rfl⟩, ?_⟩), rfl⟩))))))))
               case hp => exact ⟨⟨by omega, fold_next (by omega) q1 (by simp_all [headStep] <;> (intros; omega))⟩, by omega⟩
         · try have d5 := of_decide_eq_false h5
           try have hnn := rowHead_nn h5
           refine gn h5 rfl rfl rfl (gn h5 rfl rfl rfl (gn h5 rfl rfl rfl (gu rfl rfl rfl (gu rfl rfl rfl (gu rfl rfl rfl (gu rfl rfl rfl (gu rfl rfl rfl (gn h5 rfl rfl rfl (xo (q_pick_f rfl h5 rfl) rfl (nl (et (ev_cond_kf rfl rfl (ev_skip (eb (et (rg (xm rfl rfl (xa rfl rfl rfl (by omega) rfl (xs rfl rfl (nl (eve_round (j + 1, b2, f2) [] ?hp ⟨by (repeat first | exact trivial | refine ⟨rfl, ?_⟩), by (repeat first | exact trivial | refine ⟨rfl, ?_⟩), ⟨⟨_, rfl, rfl⟩, ⟨_, rfl, rfl⟩, trivial⟩, by (repeat first | exact trivial | refine ⟨⟨_, rfl, rfl⟩, ?_⟩), rfl⟩)))))))))))))))))))))
           case hp => exact ⟨⟨by omega, fold_next (by omega) q1 (by simp_all [headStep] <;> (intros; omega))⟩, by omega⟩
       · try have d4 := of_decide_eq_false h4
         try have hnn := rowHead_nn h4
         refine gn h4 rfl rfl rfl (gn h4 rfl rfl rfl (gn h4 rfl rfl rfl (gn h4 rfl rfl rfl (gn h4 rfl rfl rfl (xo (q_pick_f rfl h4 rfl) rfl (xm rfl rfl (gn rfl rfl rfl rfl (gn rfl rfl rfl rfl (gn rfl rfl rfl rfl (gu rfl rfl rfl (gu rfl rfl rfl (gu rfl rfl rfl (gu rfl rfl rfl (gu rfl rfl rfl (gn rfl rfl rfl rfl (xo (q_pick_f rfl rfl rfl) rfl (nl (et (ev_cond_kf rfl rfl (ev_skip (eb (et (rg (xm rfl rfl (xa rfl rfl rfl (by omega) rfl (xs rfl rfl (nl (eve_round (j + 1, b2, f2) [] ?hp ⟨by (repeat first | exact trivial | refine ⟨rfl, ?_⟩), by (repeat first | exact trivial | refine ⟨rfl, ?_⟩), ⟨⟨_, rfl, rfl⟩, ⟨_, rfl, rfl⟩, trivial⟩, by (repeat first | exact trivial | refine ⟨⟨_, rfl, rfl⟩, ?_⟩), rfl⟩))))))))))))))))))))))))))))
         case hp => exact ⟨⟨by omega, fold_next (by omega) q1 (by simp_all [headStep] <;> (intros; omega))⟩, by omega⟩
     · try have d3 := of_decide_eq_false h3
       try have hnn := rowHead_nn h3
       refine ev_exit (evx_then (evx_then (evx_hit (eb (et (rg (xm rfl rfl (xa rfl rfl rfl (by omega) rfl (xs rfl rfl (nl (eve_round (k + 1, _, _) [] ?hp ⟨by (repeat first | exact trivial | refine ⟨rfl, ?_⟩), by (repeat first | exact trivial | refine ⟨rfl, ?_⟩), ⟨⟨_, rfl, by rfl⟩, trivial⟩, by (repeat first | exact trivial | refine ⟨⟨_, rfl, rfl⟩, ?_⟩), rfl⟩)))))))))))
       case hp => exact ⟨⟨by omega, (fold_all (by omega) q1).trans (show List.foldl _ (best, fd) _ = (rightF t k).foldl (headStep k) (headUp t k) by rw [p1])⟩, by omega⟩
   · try have d2 := of_decide_eq_false h2
     try have hnn := rowHead_nn h2
     refine ev_exit (evx_then (evx_then (evx_hit (et (sq (rg ?_))))))
     first | refine xo (q_load_pr ttOk rfl rfl rfl rfl (get_map (by omega)) rfl rfl) rfl ?_ | refine xl ttOk rfl rfl ?_
     refine xm rfl rfl (xst ttOk rfl rfl (xs rfl rfl (nl (et (ev_ret (ret_pure' ttOk rfl rfl ?_))))))
     obtain rfl : k = 2 := by omega
     rw [show headIn t = (best, fd) by rw [p1]; simp [headIn, show keptOk t = true from h1]]
theorem c_HeadIn' (t : Two) : Pure Tryz.prog 98 [many (twoC t)] [many' (headR (headIn t).1), one' (RC.v (.bool (headIn t).2))] := by
 refine pure_intro (N := 56) Tryz.func98 rfl rfl rfl rfl (fun H w => ?_)
 refine sq (rg (evl_e (e_box rfl rfl rfl rfl) (evl_e (e_alloc ttOk rfl rfl rfl rfl) (xs rfl rfl (nl (et (sq (sq (rg ?_)))))))))
 first | refine xo (q_load_pr ttOk rfl rfl rfl rfl (get_map (by omega)) rfl rfl) rfl ?_ | refine xl ttOk rfl rfl ?_
 refine evl_call (nm := 12) (cf rfl) (c_KeptOk' ⟨⟨_, _⟩, ⟨_, _⟩⟩) (rs_of rfl) rfl rfl rfl (xo (q_not rfl) rfl (nl (et (ev_cond_n rfl (fun h1 => ?_) (fun h1 => ?_)))))
 · try have d1 := of_decide_eq_false h1
   try have hnn := rowHead_nn h1
   refine sq (rg (xo (q_build ttOk rfl) rfl (xst ttOk rfl rfl (xs rfl rfl (nl (et (ev_ret (evr_then (ret_pureN ttOk rfl rfl ?_)))))))))
   rw [show headIn t = (noHead, false) by simp [headIn, show keptOk t = false from h1]]; simp [RpLe, L2, RcLe, noHead]
 · try have d1 := of_decide_eq_true h1
   try have hnn := rowHead_nn h1
   refine ev_skip (et (sq (rg (xo (q_build ttOk rfl) rfl (evl_e (e_alloc ttOk rfl rfl rfl rfl) (xst ttOk rfl rfl (xs rfl rfl (nl (et (sq (sq (ev_adopt (b := 4) 3 101 148 3 rfl rfl rfl rfl rfl (rg (xs rfl rfl (nl (et (ev_blk (ev_loop (fun i : Nat × Head × Bool => (⟨[(6, iV i.1), (1, pbV 1 0), (2, pbV 2 0), (3, bV false), (4, pbV 4 0), (5, bV i.2.2)], [(4, 45, [.c (iC i.2.1.num), .c (iC i.2.1.base), .c (iC i.2.1.time), .rt 101]), (2, 45, [.c (iC 0), .c (iC 0), .c (iC 0), .c .nil]), (1, 42, [.c (rows t.a.kept), .c (writes t.a.wait), .c (rows t.b.kept), .c (writes t.b.wait)])], [(101, 148, 3, (i.2.1.seen.map markC))], []⟩ : St)) (fun i => i.1 ≤ 2 ∧ (i.2.1, i.2.2) = headUp t i.1) (fun i => 2 - i.1) (0, noHead, false) [] (⟨by simp, rfl⟩) ⟨by (repeat first | exact trivial | refine ⟨rfl, ?_⟩), by (repeat first | exact trivial | refine ⟨rfl, ?_⟩), ⟨⟨_, rfl, by rfl⟩, trivial⟩, by (repeat first | exact trivial | refine ⟨⟨_, rfl, rfl⟩, ?_⟩), rfl⟩ ?_))))))))))))))))))
   intro i hp
   obtain ⟨k, best, fd⟩ := i
   have hp : k ≤ 2 ∧ (best, fd) = headUp t k := hp
   obtain ⟨p0, p1⟩ := hp
   show Ev _ _ _ _ (⟨[(6, iV k), (1, pbV 1 0), (2, pbV 2 0), (3, bV false), (4, pbV 4 0), (5, bV fd)], [(4, 45, [.c (iC best.num), .c (iC best.base), .c (iC best.time), .rt 101]), (2, 45, [.c (iC 0), .c (iC 0), .c (iC 0), .c .nil]), (1, 42, [.c (rows t.a.kept), .c (writes t.a.wait), .c (rows t.b.kept), .c (writes t.b.wait)])], [(101, 148, 3, (best.seen.map markC))], []⟩ : St)
   refine sq (sq (rg (xm rfl rfl (xb ttOk rfl rfl (nl (et (ev_cond rfl (fun h2 => ?_) (fun h2 => ?_))))))))
   · try have d2 := of_decide_eq_true h2
     try have hnn := rowHead_nn h2
     refine ev_skip (et (sq (ev_blk (sq ?_))))
     have hrl := rightF_len t k
     refine rg ?_
     first | refine xo (q_load_pr ttOk rfl rfl rfl rfl (get_map (by omega)) rfl rfl) rfl ?_ | refine xl ttOk rfl rfl ?_
     refine xm rfl rfl (evl_call (nm := 22) (cf rfl) (c_RightAt' t _) (rs_of rfl) rfl rfl rfl (xo (q_len_rtm ttOk rfl rfl rfl) rfl (xm rfl rfl (nl (et (ev_blk (ev_loop (fun i : Nat × Head × Bool => (⟨[(24, iV i.1), (22, .p false [.rt 102]), (23, iV (rightF t k).length), (6, iV k), (1, pbV 1 0), (2, pbV 2 0), (3, bV false), (4, pbV 4 0), (5, bV i.2.2)], [(4, 45, [.c (iC i.2.1.num), .c (iC i.2.1.base), .c (iC i.2.1.time), .rt 101]), (2, 45, [.c (iC 0), .c (iC 0), .c (iC 0), .c .nil]), (1, 42, [.c (rows t.a.kept), .c (writes t.a.wait), .c (rows t.b.kept), .c (writes t.b.wait)])], [(101, 148, 3, (i.2.1.seen.map markC)), (102, 72, 1, ((rightF t k).map fun r => [ints r]))], []⟩ : St)) (fun i => i.1 ≤ (rightF t k).length ∧ (i.2.1, i.2.2) = ((rightF t k).take i.1).foldl (headStep k) (best, fd)) (fun i => (rightF t k).length - i.1) (0, best, fd) [(102, 22)] (⟨by simp, rfl⟩) ⟨by (repeat first | exact trivial | refine ⟨rfl, ?_⟩), by (repeat first | exact trivial | refine ⟨rfl, ?_⟩), ⟨⟨_, rfl, by rfl⟩, ⟨_, rfl, by rfl⟩, trivial⟩, by (repeat first | exact trivial | refine ⟨⟨_, rfl, rfl⟩, ?_⟩), rfl⟩ ?_)))))))
     intro i hp
     obtain ⟨j, b2, f2⟩ := i
     have hp : j ≤ (rightF t k).length ∧ (b2, f2) = ((rightF t k).take j).foldl (headStep k) (best, fd) := hp
     obtain ⟨q0, q1⟩ := hp
     show Ev _ _ _ _ (⟨[(24, iV j), (22, .p false [.rt 102]), (23, iV (rightF t k).length), (6, iV k), (1, pbV 1 0), (2, pbV 2 0), (3, bV false), (4, pbV 4 0), (5, bV f2)], [(4, 45, [.c (iC b2.num), .c (iC b2.base), .c (iC b2.time), .rt 101]), (2, 45, [.c (iC 0), .c (iC 0), .c (iC 0), .c .nil]), (1, 42, [.c (rows t.a.kept), .c (writes t.a.wait), .c (rows t.b.kept), .c (writes t.b.wait)])], [(101, 148, 3, (b2.seen.map markC)), (102, 72, 1, ((rightF t k).map fun r => [ints r]))], []⟩ : St)
     refine sq (rg (xb ttOk rfl rfl (nl (et (sq (ev_cond rfl (fun h3 => ?_) (fun h3 => ?_)))))))
     · try have d3 := of_decide_eq_true h3
       try have hnn := rowHead_nn h3
       refine ev_skip (et (sq (ev_blk (sq (rg (xo (q_ix_rt (m := j) ttOk rfl rfl rfl rfl rfl rfl (by simp; omega)) rfl ?_))))))
       first | refine xo (q_load_pr ttOk rfl rfl rfl rfl (get_map (by omega)) rfl rfl) rfl ?_ | refine xl ttOk rfl rfl ?_
       refine xs rfl rfl (nl (et (sq (rg (xm rfl rfl (evl_call (nm := 30) (cf rfl) (c_RowHead' _) (rs_sub rfl rfl (get_map (by omega)) rfl) rfl rfl rfl (xm rfl rfl (xo (q_ext rfl) rfl (xo (q_ext rfl) rfl (evl_e (e_alloc ttOk rfl rfl rfl rfl) (xst ttOk rfl rfl (xs rfl rfl (nl (et (sq (rg (xm rfl rfl (xm rfl rfl (evl_part rfl rfl (fun h4 => ?_) (fun h4 => ?_))))))))))))))))))))
       · try have d4 := of_decide_eq_true h4
         try have hnn := rowHead_nn h4
         refine go h4 rfl rfl (q_fieldAddr ttOk rfl) rfl ?_
         first | refine go h4 rfl rfl (q_load_pr ttOk rfl rfl rfl rfl (get_map (by omega)) rfl rfl) rfl ?_ | refine go h4 rfl rfl (q_load ttOk rfl) rfl ?_
         first | refine go h4 rfl rfl (q_rem_pos rfl rfl (by omega)) rfl ?_ | refine go h4 rfl rfl (q_rem rfl rfl (by omega)) rfl ?_
         refine gm h4 rfl rfl rfl rfl (go h4 rfl rfl (q_bin ttOk rfl) rfl (xo (q_pick_t rfl h4 rfl) rfl (xm rfl rfl (evl_part rfl rfl (fun h5 => ?_) (fun h5 => ?_)))))
         · try have d5 := of_decide_eq_true h5
           try have hnn := rowHead_nn h5
           refine gm h5 rfl rfl rfl rfl (go h5 rfl rfl (q_not rfl) rfl (gm h5 rfl rfl rfl rfl (evl_partn rfl rfl (fun h6 => ?_) (fun h6 => ?_))))
           · try have d6 := of_decide_eq_false h6
             try have hnn := rowHead_nn h6
             refine gn (nt h6) rfl rfl rfl (gn (nt h6) rfl rfl rfl (gn (nt h6) rfl rfl rfl (gn (nt h6) rfl rfl rfl (gn (nt h6) rfl rfl rfl (go h5 rfl rfl (q_pick_t rfl (nt h6) rfl) rfl (xo (q_pick_t rfl h5 rfl) rfl (nl (et (ev_cond_kt rfl rfl (rg ?_))))))))))
             first | refine xo (q_load_pr ttOk rfl rfl rfl rfl (get_map (by omega)) rfl rfl) rfl ?_ | refine xl ttOk rfl rfl ?_
             refine xst ttOk rfl rfl (xs rfl rfl (nl (eb (et (rg (xa rfl rfl rfl (by omega) rfl (xm rfl rfl (nl (eve_round (j + 1, (rowHeadF (rightF t k)[j]).getD noHead, true) [(101, 30)] ?hp ⟨by (repeat first | exact trivial | refine ⟨rfl, ?_⟩), by (repeat first | exact trivial | refine ⟨rfl, ?_⟩), ⟨⟨_, rfl, rfl⟩, ⟨_, rfl, rfl⟩, trivial⟩, by (repeat first | exact trivial | refine ⟨⟨_, rfl, rfl⟩, ?_⟩), rfl⟩)))))))))
             case hp => exact ⟨⟨by omega, fold_next (by omega) q1 (by simp_all [headStep] <;> (intros; omega))⟩, by omega⟩
           · try have d6 := of_decide_eq_true h6
             try have hnn := rowHead_nn h6
             refine go (nf h6) rfl rfl (q_fieldAddr ttOk rfl) rfl ?_
             first | refine go (nf h6) rfl rfl (q_load_pr ttOk rfl rfl rfl rfl (get_map (by omega)) rfl rfl) rfl ?_ | refine go (nf h6) rfl rfl (q_load ttOk rfl) rfl ?_
             refine go (nf h6) rfl rfl (q_fieldAddr ttOk rfl) rfl ?_
             first | refine go (nf h6) rfl rfl (q_load_pr ttOk rfl rfl rfl rfl (get_map (by omega)) rfl rfl) rfl ?_ | refine go (nf h6) rfl rfl (q_load ttOk rfl) rfl ?_
             refine go (nf h6) rfl rfl (q_bin ttOk rfl) rfl (go h5 rfl rfl (q_pick_f rfl (nf h6) rfl) rfl (xo (q_pick_t rfl h5 rfl) rfl (nl (et (ev_cond rfl (fun h7 => ?_) (fun h7 => ?_))))))
             · try have d7 := of_decide_eq_true h7
               try have hnn := rowHead_nn h7
               refine rg ?_
               first | refine xo (q_load_pr ttOk rfl rfl rfl rfl (get_map (by omega)) rfl rfl) rfl ?_ | refine xl ttOk rfl rfl ?_
               refine xst ttOk rfl rfl (xs rfl rfl (nl (eb (et (rg (xa rfl rfl rfl (by omega) rfl (xm rfl rfl (nl (eve_round (j + 1, (rowHeadF (rightF t k)[j]).getD noHead, true) [(101, 30)] ?hp ⟨by (repeat first | exact trivial | refine ⟨rfl, ?_⟩), by (repeat first | exact trivial | refine ⟨rfl, ?_⟩), ⟨⟨_, rfl, rfl⟩, ⟨_, rfl, rfl⟩, trivial⟩, by (repeat first | exact trivial | refine ⟨⟨_, rfl, rfl⟩, ?_⟩), rfl⟩)))))))))
               case hp => exact ⟨⟨by omega, fold_next (by omega) q1 (by simp_all [headStep] <;> (intros; omega))⟩, by omega⟩
             · try have d7 := of_decide_eq_false h7
               try have hnn := rowHead_nn h7
               refine ev_skip (eb (et (rg (xa rfl rfl rfl (by omega) rfl (xm rfl rfl (nl (eve_round (j + 1, b2, f2) [] ?hp ⟨by (repeat first | exact trivial | refine ⟨rfl, ?_⟩), by (repeat first | exact trivial | refine ⟨rfl, ?_⟩), ⟨⟨_, rfl, rfl⟩, ⟨_, rfl, rfl⟩, trivial⟩, by (repeat first | exact trivial | refine ⟨⟨_, rfl, rfl⟩, ?_⟩), rfl⟩)))))))
               case hp => exact ⟨⟨by omega, fold_next (by omega) q1 (by simp_all [headStep] <;> (intros; omega))⟩, by omega⟩
         · try have d5 := of_decide_eq_false h5
           try have hnn := rowHead_nn h5
           refine gn h5 rfl rfl rfl (gn h5 rfl rfl rfl (gn h5 rfl rfl rfl (gu rfl rfl rfl (gu rfl rfl rfl (gu rfl rfl rfl (gu rfl rfl rfl (gu rfl rfl rfl (gn h5 rfl rfl rfl (xo (q_pick_f rfl h5 rfl) rfl (nl (et (ev_cond_kf rfl rfl (ev_skip (eb (et (rg (xa rfl rfl rfl (by omega) rfl (xm rfl rfl (nl (eve_round (j + 1, b2, f2) [] ?hp ⟨by (repeat first | exact trivial | refine ⟨rfl, ?_⟩), by (repeat first | exact trivial | refine ⟨rfl, ?_⟩), ⟨⟨_, rfl, rfl⟩, ⟨_, rfl, rfl⟩, trivial⟩, by (repeat first | exact trivial | refine ⟨⟨_, rfl, rfl⟩, ?_⟩), rfl⟩))))))))))))))))))))
           case hp => exact ⟨⟨by omega, fold_next (by omega) q1 (by simp_all [headStep] <;> (intros; omega))⟩, by omega⟩
       · try have d4 := of_decide_eq_false h4
         try have hnn := rowHead_nn h4
         refine gn h4 rfl rfl rfl (gn h4 rfl rfl rfl (gn h4 rfl rfl rfl (gn h4 rfl rfl rfl (gn h4 rfl rfl rfl (xo (q_pick_f rfl h4 rfl) rfl (xm rfl rfl (gn rfl rfl rfl rfl (gn rfl rfl rfl rfl (gn rfl rfl rfl rfl (gu rfl rfl rfl (gu rfl rfl rfl (gu rfl rfl rfl (gu rfl rfl rfl (gu rfl rfl rfl (gn rfl rfl rfl rfl (xo (q_pick_f rfl rfl rfl) rfl (nl (et (ev_cond_kf rfl rfl (ev_skip (eb (et (rg (xa rfl rfl rfl (by omega) rfl (xm rfl rfl (nl (eve_round (j + 1, b2, f2) [] ?hp ⟨by (repeat first | exact trivial | refine ⟨rfl, ?_⟩), by (repeat first | exact trivial | refine ⟨rfl, ?_⟩), ⟨⟨_, rfl, rfl⟩, ⟨_, rfl, rfl⟩, trivial⟩, by (repeat first | exact trivial | refine ⟨⟨_, rfl, rfl⟩, ?_⟩), rfl⟩)))))))))))))))))))))))))))
         case hp => exact ⟨⟨by omega, fold_next (by omega) q1 (by simp_all [headStep] <;> (intros; omega))⟩, by omega⟩
     · try have d3 := of_decide_eq_false h3
       try have hnn := rowHead_nn h3
       refine ev_exit (evx_then (evx_then (evx_hit (eb (et (rg (xm rfl rfl (xa rfl rfl rfl (by omega) rfl (xs rfl rfl (nl (eve_round (k + 1, _, _) [] ?hp ⟨by (repeat first | exact trivial | refine ⟨rfl, ?_⟩), by (repeat first | exact trivial | refine ⟨rfl, ?_⟩), ⟨⟨_, rfl, by rfl⟩, trivial⟩, by (repeat first | exact trivial | refine ⟨⟨_, rfl, rfl⟩, ?_⟩), rfl⟩)))))))))))
       case hp => exact ⟨⟨by omega, (fold_all (by omega) q1).trans (show List.foldl _ (best, fd) _ = (rightF t k).foldl (headStep k) (headUp t k) by rw [p1])⟩, by omega⟩
   · try have d2 := of_decide_eq_false h2
     try have hnn := rowHead_nn h2
     refine ev_exit (evx_then (evx_then (evx_hit (et (sq (rg ?_))))))
     first | refine xo (q_load_pr ttOk rfl rfl rfl rfl (get_map (by omega)) rfl rfl) rfl ?_ | refine xl ttOk rfl rfl ?_
     refine xm rfl rfl (xst ttOk rfl rfl (xs rfl rfl (nl (et (ev_ret (ret_pure' ttOk rfl rfl ?_))))))
     obtain rfl : k = 2 := by omega
     rw [show headIn t = (best, fd) by rw [p1]; simp [headIn, show keptOk t = true from h1]]

end Go.Proofs.YtphaggopgdbojaaGreat
namespace Go.Proofs.YtphaggopgdbojaaGreat
open Go.ChangeShapes Go.WideShapes Go.ChangeAt Go.RowKit
set_option linter.unusedVariables false
set_option linter.unusedSimpArgs false
set_option maxHeartbeats 1000000
set_option maxRecDepth 100000
attribute [local irreducible] EvL Ev EvE Quiet Eff Pure RDk RDb RDo
theorem e_ints (l : List Int) : Pure Tryz.prog 34 [one (ints l), one (ints l)] (bR true) := by
 refine pure_intro (N := 26) Tryz.func34 rfl rfl rfl rfl (fun H w => ?_)
 refine ev_lenm (t := 0) rfl (fun hL => ?_)
 refine ev_lenm (t := 1) rfl (fun hM => ?_)
 refine sq (rg (xs rfl rfl (nl (et (sq (sq (rg (xm rfl rfl (xo (q_len_map ttOk rfl rfl) rfl (xm rfl rfl (xo (q_len_map ttOk rfl rfl) rfl (xb ttOk rfl rfl (nl (et (ev_cond rfl (fun h1 => ?_) (fun h1 => ?_))))))))))))))))
 · try have d1 := of_decide_eq_true h1
   refine sq (rg (xs rfl rfl (nl (et (ev_ret (evr_then (ret_pure' ttOk rfl rfl (congrArg bR (?_ : _ = _)))))))))
   first | rfl | (exfalso; simp_all; done) | (exfalso; omega)
 · try have d1 := of_decide_eq_false h1
   refine ev_skip (et (sq (sq (rg (xs rfl rfl (nl (et (ev_blk (ev_loop (fun k : Nat => (⟨[(5, iV k), (0, cV (ints l)), (1, cV (ints l))], [], [], []⟩ : St)) (fun k => k ≤ l.length) (fun k => l.length - k) 0 [] (by simp) ⟨by (repeat first | exact trivial | refine ⟨rfl, ?_⟩), by (repeat first | exact trivial | refine ⟨rfl, ?_⟩), by (repeat first | exact trivial | refine ⟨⟨_, rfl, rfl⟩, ?_⟩), by (repeat first | exact trivial | refine ⟨⟨_, rfl, rfl⟩, ?_⟩), rfl⟩ ?_)))))))))
   intro k hp
   have p0 := hp
   show Ev _ _ _ _ (⟨[(5, iV k), (0, cV (ints l)), (1, cV (ints l))], [], [], []⟩ : St)
   refine sq (sq (rg (xm rfl rfl (xm rfl rfl (xo (q_len_map ttOk rfl rfl) rfl (xb ttOk rfl rfl (nl (et (ev_cond rfl (fun h2 => ?_) (fun h2 => ?_))))))))))
   · try have d2 := of_decide_eq_true h2
     refine ev_skip (et (sq (ev_blk (sq (ev_drawq [] mo (rdk_take 0 rfl (by kernel_rfl) trivial (q_move rfl) rfl (rdk_take 1 rfl (by kernel_rfl) trivial (q_move rfl) rfl (rdk_take 2 rfl (by kernel_rfl) trivial (q_ix_map ttOk rfl rfl rfl rfl (by omega)) rfl (rdk_take 3 rfl (by kernel_rfl) trivial (q_load ttOk rfl) rfl (rdk_take 4 rfl (by kernel_rfl) trivial (q_move rfl) rfl (rdk_take 5 rfl (by kernel_rfl) trivial (q_move rfl) rfl (rdk_take 6 rfl (by kernel_rfl) trivial (q_ix_map ttOk rfl rfl rfl rfl (by omega)) rfl (rdk_take 7 rfl (by kernel_rfl) trivial (q_load ttOk rfl) rfl (rdk_take 8 rfl (by kernel_rfl) trivial (q_bin ttOk rfl) rfl (rdk_endq (by kernel_rfl) (et (ev_cond rfl (fun h3 => ?_) (fun h3 => ?_))))))))))))))))))
     · try have d3 := of_decide_eq_true h3
       refine sq (rg (xs rfl rfl (nl (et (ev_ret (evr_blk (evr_then (evr_then (evr_blk (evr_then (ret_pure' ttOk rfl rfl (congrArg bR (?_ : _ = _)))))))))))))
       first | rfl | (exfalso; simp_all; done) | (exfalso; omega)
     · try have d3 := of_decide_eq_false h3
       refine ev_skip (eb (et (rg (xm rfl rfl (xa rfl rfl rfl (by omega) rfl (xs rfl rfl (nl (eve_round (k + 1) [] ?hp ⟨by (repeat first | exact trivial | refine ⟨rfl, ?_⟩), by (repeat first | exact trivial | refine ⟨rfl, ?_⟩), by (repeat first | exact trivial | refine ⟨⟨_, rfl, rfl⟩, ?_⟩), by (repeat first | exact trivial | refine ⟨⟨_, rfl, rfl⟩, ?_⟩), rfl⟩))))))))
       case hp => exact ⟨by omega, by omega⟩
   · try have d2 := of_decide_eq_false h2
     refine ev_exit (evx_then (evx_then (evx_hit (et (sq (rg (xs rfl rfl (nl (et (ev_ret (ret_pure' ttOk rfl rfl (congrArg bR (?_ : _ = _)))))))))))))
     first | rfl | (exfalso; simp_all; done) | (exfalso; omega)
theorem e_rows (l : List (List Int)) : Pure Tryz.prog 154 [one (rows l), one (rows l)] (bR true) := by
 refine pure_intro (N := 27) Tryz.func154 rfl rfl rfl rfl (fun H w => ?_)
 refine ev_lenm (t := 0) rfl (fun hL => ?_)
 refine ev_lenm (t := 1) rfl (fun hM => ?_)
 refine sq (rg (xs rfl rfl (nl (et (sq (sq (rg (xm rfl rfl (xo (q_len_map ttOk rfl rfl) rfl (xm rfl rfl (xo (q_len_map ttOk rfl rfl) rfl (xb ttOk rfl rfl (nl (et (ev_cond rfl (fun h1 => ?_) (fun h1 => ?_))))))))))))))))
 · try have d1 := of_decide_eq_true h1
   refine sq (rg (xs rfl rfl (nl (et (ev_ret (evr_then (ret_pure' ttOk rfl rfl (congrArg bR (?_ : _ = _)))))))))
   first | rfl | (exfalso; simp_all; done) | (exfalso; omega)
 · try have d1 := of_decide_eq_false h1
   refine ev_skip (et (sq (sq (rg (xs rfl rfl (nl (et (ev_blk (ev_loop (fun k : Nat => (⟨[(5, iV k), (0, cV (rows l)), (1, cV (rows l))], [], [], []⟩ : St)) (fun k => k ≤ l.length) (fun k => l.length - k) 0 [] (by simp) ⟨by (repeat first | exact trivial | refine ⟨rfl, ?_⟩), by (repeat first | exact trivial | refine ⟨rfl, ?_⟩), by (repeat first | exact trivial | refine ⟨⟨_, rfl, rfl⟩, ?_⟩), by (repeat first | exact trivial | refine ⟨⟨_, rfl, rfl⟩, ?_⟩), rfl⟩ ?_)))))))))
   intro k hp
   have p0 := hp
   show Ev _ _ _ _ (⟨[(5, iV k), (0, cV (rows l)), (1, cV (rows l))], [], [], []⟩ : St)
   refine sq (sq (rg (xm rfl rfl (xm rfl rfl (xo (q_len_map ttOk rfl rfl) rfl (xb ttOk rfl rfl (nl (et (ev_cond rfl (fun h2 => ?_) (fun h2 => ?_))))))))))
   · try have d2 := of_decide_eq_true h2
     refine ev_skip (et (sq (ev_blk (sq (ev_drawq [] mo (rdk_take 0 rfl (by kernel_rfl) trivial (q_move rfl) rfl (rdk_take 1 rfl (by kernel_rfl) trivial (q_move rfl) rfl (rdk_take 2 rfl (by kernel_rfl) trivial (q_ix_map ttOk rfl rfl rfl rfl (by omega)) rfl (rdk_take 3 rfl (by kernel_rfl) trivial (q_load ttOk rfl) rfl (rdk_take 4 rfl (by kernel_rfl) trivial (q_move rfl) rfl (rdk_take 5 rfl (by kernel_rfl) trivial (q_move rfl) rfl (rdk_take 6 rfl (by kernel_rfl) trivial (q_ix_map ttOk rfl rfl rfl rfl (by omega)) rfl (rdk_take 7 rfl (by kernel_rfl) trivial (q_load ttOk rfl) rfl (rdk_one 8 (by kernel_rfl) (rdo_call (nm := 25) rfl trivial (cf rfl) (e_ints _) (rs_of rfl) rfl rfl rfl (rdk_take 9 rfl (by kernel_rfl) trivial (q_not rfl) rfl (rdk_endq (by kernel_rfl) (et (ev_cond_n rfl (fun h3 => ?_) (fun h3 => ?_))))))))))))))))))))
     · try have d3 := of_decide_eq_false h3
       refine sq (rg (xs rfl rfl (nl (et (ev_ret (evr_blk (evr_then (evr_then (evr_blk (evr_then (ret_pure' ttOk rfl rfl (congrArg bR (?_ : _ = _)))))))))))))
       first | rfl | (exfalso; simp_all; done) | (exfalso; omega)
     · try have d3 := of_decide_eq_true h3
       refine ev_skip (eb (et (rg (xm rfl rfl (xa rfl rfl rfl (by omega) rfl (xs rfl rfl (nl (eve_round (k + 1) [] ?hp ⟨by (repeat first | exact trivial | refine ⟨rfl, ?_⟩), by (repeat first | exact trivial | refine ⟨rfl, ?_⟩), by (repeat first | exact trivial | refine ⟨⟨_, rfl, rfl⟩, ?_⟩), by (repeat first | exact trivial | refine ⟨⟨_, rfl, rfl⟩, ?_⟩), rfl⟩))))))))
       case hp => exact ⟨by omega, by omega⟩
   · try have d2 := of_decide_eq_false h2
     refine ev_exit (evx_then (evx_then (evx_hit (et (sq (rg (xs rfl rfl (nl (et (ev_ret (ret_pure' ttOk rfl rfl (congrArg bR (?_ : _ = _)))))))))))))
     first | rfl | (exfalso; simp_all; done) | (exfalso; omega)
theorem e_write (x : Int × List Int) : Pure Tryz.prog 212 [many ([iC x.1, ints x.2]), many ([iC x.1, ints x.2])] (bR true) := by
 refine pure_intro (N := 16) Tryz.func212 rfl rfl rfl rfl (fun H w => ?_)
 refine sq (rg (evl_e (e_box rfl rfl rfl rfl) (evl_e (e_box rfl rfl rfl rfl) (xs rfl rfl (nl (et (sq (sq (rg (xf ttOk rfl rfl (xl ttOk rfl rfl (xf ttOk rfl rfl (xl ttOk rfl rfl (xb ttOk rfl rfl (nl (et (ev_cond rfl (fun h1 => ?_) (fun h1 => ?_))))))))))))))))))
 · try have d1 := of_decide_eq_true h1
   refine sq (rg (xs rfl rfl (nl (et (ev_ret (evr_then (ret_pure' ttOk rfl rfl (congrArg bR (?_ : _ = _)))))))))
   first | rfl | (exfalso; simp_all; done) | (exfalso; omega)
 · try have d1 := of_decide_eq_false h1
   refine ev_skip (et (sq (sq (rg (xf ttOk rfl rfl (xl ttOk rfl rfl (xf ttOk rfl rfl (xl ttOk rfl rfl (evl_call (nm := 14) (cf rfl) (e_ints _) (rs_of rfl) rfl rfl rfl (xo (q_not rfl) rfl (nl (et (ev_cond_n rfl (fun h2 => ?_) (fun h2 => ?_))))))))))))))
   · try have d2 := of_decide_eq_false h2
     refine sq (rg (xs rfl rfl (nl (et (ev_ret (evr_then (ret_pure' ttOk rfl rfl (congrArg bR (?_ : _ = _)))))))))
     first | rfl | (exfalso; simp_all; done) | (exfalso; omega)
   · try have d2 := of_decide_eq_true h2
     refine ev_skip (et (sq (rg (xs rfl rfl (nl (et (ev_ret (ret_pure' ttOk rfl rfl (congrArg bR (?_ : _ = _))))))))))
     first | rfl | (exfalso; simp_all; done) | (exfalso; omega)
theorem e_writes (l : List (Int × List Int)) : Pure Tryz.prog 155 [one (writes l), one (writes l)] (bR true) := by
 refine pure_intro (N := 27) Tryz.func155 rfl rfl rfl rfl (fun H w => ?_)
 refine ev_lenm (t := 0) rfl (fun hL => ?_)
 refine ev_lenm (t := 1) rfl (fun hM => ?_)
 refine sq (rg (xs rfl rfl (nl (et (sq (sq (rg (xm rfl rfl (xo (q_len_map ttOk rfl rfl) rfl (xm rfl rfl (xo (q_len_map ttOk rfl rfl) rfl (xb ttOk rfl rfl (nl (et (ev_cond rfl (fun h1 => ?_) (fun h1 => ?_))))))))))))))))
 · try have d1 := of_decide_eq_true h1
   refine sq (rg (xs rfl rfl (nl (et (ev_ret (evr_then (ret_pure' ttOk rfl rfl (congrArg bR (?_ : _ = _)))))))))
   first | rfl | (exfalso; simp_all; done) | (exfalso; omega)
 · try have d1 := of_decide_eq_false h1
   refine ev_skip (et (sq (sq (rg (xs rfl rfl (nl (et (ev_blk (ev_loop (fun k : Nat => (⟨[(5, iV k), (0, cV (writes l)), (1, cV (writes l))], [], [], []⟩ : St)) (fun k => k ≤ l.length) (fun k => l.length - k) 0 [] (by simp) ⟨by (repeat first | exact trivial | refine ⟨rfl, ?_⟩), by (repeat first | exact trivial | refine ⟨rfl, ?_⟩), by (repeat first | exact trivial | refine ⟨⟨_, rfl, rfl⟩, ?_⟩), by (repeat first | exact trivial | refine ⟨⟨_, rfl, rfl⟩, ?_⟩), rfl⟩ ?_)))))))))
   intro k hp
   have p0 := hp
   show Ev _ _ _ _ (⟨[(5, iV k), (0, cV (writes l)), (1, cV (writes l))], [], [], []⟩ : St)
   refine sq (sq (rg (xm rfl rfl (xm rfl rfl (xo (q_len_map ttOk rfl rfl) rfl (xb ttOk rfl rfl (nl (et (ev_cond rfl (fun h2 => ?_) (fun h2 => ?_))))))))))
   · try have d2 := of_decide_eq_true h2
     refine ev_skip (et (sq (ev_blk (sq (ev_drawq [] mo (rdk_take 0 rfl (by kernel_rfl) trivial (q_move rfl) rfl (rdk_take 1 rfl (by kernel_rfl) trivial (q_move rfl) rfl (rdk_take 2 rfl (by kernel_rfl) trivial (q_ix_map ttOk rfl rfl rfl rfl (by omega)) rfl (rdk_take 3 rfl (by kernel_rfl) trivial (q_load ttOk rfl) rfl (rdk_take 4 rfl (by kernel_rfl) trivial (q_move rfl) rfl (rdk_take 5 rfl (by kernel_rfl) trivial (q_move rfl) rfl (rdk_take 6 rfl (by kernel_rfl) trivial (q_ix_map ttOk rfl rfl rfl rfl (by omega)) rfl (rdk_take 7 rfl (by kernel_rfl) trivial (q_load ttOk rfl) rfl (rdk_one 8 (by kernel_rfl) (rdo_call (nm := 25) rfl trivial (cf rfl) (e_write ⟨_, _⟩) (rs_of rfl) rfl rfl rfl (rdk_take 9 rfl (by kernel_rfl) trivial (q_not rfl) rfl (rdk_endq (by kernel_rfl) (et (ev_cond_n rfl (fun h3 => ?_) (fun h3 => ?_))))))))))))))))))))
     · try have d3 := of_decide_eq_false h3
       refine sq (rg (xs rfl rfl (nl (et (ev_ret (evr_blk (evr_then (evr_then (evr_blk (evr_then (ret_pure' ttOk rfl rfl (congrArg bR (?_ : _ = _)))))))))))))
       first | rfl | (exfalso; simp_all; done) | (exfalso; omega)
     · try have d3 := of_decide_eq_true h3
       refine ev_skip (eb (et (rg (xm rfl rfl (xa rfl rfl rfl (by omega) rfl (xs rfl rfl (nl (eve_round (k + 1) [] ?hp ⟨by (repeat first | exact trivial | refine ⟨rfl, ?_⟩), by (repeat first | exact trivial | refine ⟨rfl, ?_⟩), by (repeat first | exact trivial | refine ⟨⟨_, rfl, rfl⟩, ?_⟩), by (repeat first | exact trivial | refine ⟨⟨_, rfl, rfl⟩, ?_⟩), rfl⟩))))))))
       case hp => exact ⟨by omega, by omega⟩
   · try have d2 := of_decide_eq_false h2
     refine ev_exit (evx_then (evx_then (evx_hit (et (sq (rg (xs rfl rfl (nl (et (ev_ret (ret_pure' ttOk rfl rfl (congrArg bR (?_ : _ = _)))))))))))))
     first | rfl | (exfalso; simp_all; done) | (exfalso; omega)
theorem e_disk (d : Disk) : Pure Tryz.prog 85 [many (diskC d), many (diskC d)] (bR true) := by
 refine pure_intro (N := 17) Tryz.func85 rfl rfl rfl rfl (fun H w => ?_)
 refine sq (rg (evl_e (e_box rfl rfl rfl rfl) (evl_e (e_box rfl rfl rfl rfl) (xs rfl rfl (nl (et (sq (sq (rg (xf ttOk rfl rfl (xl ttOk rfl rfl (xf ttOk rfl rfl (xl ttOk rfl rfl (evl_call (nm := 9) (cf rfl) (e_rows _) (rs_of rfl) rfl rfl rfl (xo (q_not rfl) rfl (nl (et (ev_cond_n rfl (fun h1 => ?_) (fun h1 => ?_)))))))))))))))))))
 · try have d1 := of_decide_eq_false h1
   refine sq (rg (xs rfl rfl (nl (et (ev_ret (evr_then (ret_pure' ttOk rfl rfl (congrArg bR (?_ : _ = _)))))))))
   first | rfl | (exfalso; simp_all; done) | (exfalso; omega)
 · try have d1 := of_decide_eq_true h1
   refine ev_skip (et (sq (sq (rg (xf ttOk rfl rfl (xl ttOk rfl rfl (xf ttOk rfl rfl (xl ttOk rfl rfl (evl_call (nm := 15) (cf rfl) (e_writes _) (rs_of rfl) rfl rfl rfl (xo (q_not rfl) rfl (nl (et (ev_cond_n rfl (fun h2 => ?_) (fun h2 => ?_))))))))))))))
   · try have d2 := of_decide_eq_false h2
     refine sq (rg (xs rfl rfl (nl (et (ev_ret (evr_then (ret_pure' ttOk rfl rfl (congrArg bR (?_ : _ = _)))))))))
     first | rfl | (exfalso; simp_all; done) | (exfalso; omega)
   · try have d2 := of_decide_eq_true h2
     refine ev_skip (et (sq (rg (xs rfl rfl (nl (et (ev_ret (ret_pure' ttOk rfl rfl (congrArg bR (?_ : _ = _))))))))))
     first | rfl | (exfalso; simp_all; done) | (exfalso; omega)
theorem e_two (t : Two) : Pure Tryz.prog 25 [many (twoC t), many (twoC t)] (bR true) := by
 refine pure_intro (N := 17) Tryz.func25 rfl rfl rfl rfl (fun H w => ?_)
 refine sq (rg (evl_e (e_box rfl rfl rfl rfl) (evl_e (e_box rfl rfl rfl rfl) (xs rfl rfl (nl (et (sq (sq (rg (xf ttOk rfl rfl (xl ttOk rfl rfl (xf ttOk rfl rfl (xl ttOk rfl rfl (evl_call (nm := 9) (cf rfl) (e_disk ⟨_, _⟩) (rs_of rfl) rfl rfl rfl (xo (q_not rfl) rfl (nl (et (ev_cond_n rfl (fun h1 => ?_) (fun h1 => ?_)))))))))))))))))))
 · try have d1 := of_decide_eq_false h1
   refine sq (rg (xs rfl rfl (nl (et (ev_ret (evr_then (ret_pure' ttOk rfl rfl (congrArg bR (?_ : _ = _)))))))))
   first | rfl | (exfalso; simp_all; done) | (exfalso; omega)
 · try have d1 := of_decide_eq_true h1
   refine ev_skip (et (sq (sq (rg (xf ttOk rfl rfl (xl ttOk rfl rfl (xf ttOk rfl rfl (xl ttOk rfl rfl (evl_call (nm := 15) (cf rfl) (e_disk ⟨_, _⟩) (rs_of rfl) rfl rfl rfl (xo (q_not rfl) rfl (nl (et (ev_cond_n rfl (fun h2 => ?_) (fun h2 => ?_))))))))))))))
   · try have d2 := of_decide_eq_false h2
     refine sq (rg (xs rfl rfl (nl (et (ev_ret (evr_then (ret_pure' ttOk rfl rfl (congrArg bR (?_ : _ = _)))))))))
     first | rfl | (exfalso; simp_all; done) | (exfalso; omega)
   · try have d2 := of_decide_eq_true h2
     refine ev_skip (et (sq (rg (xs rfl rfl (nl (et (ev_ret (ret_pure' ttOk rfl rfl (congrArg bR (?_ : _ = _))))))))))
     first | rfl | (exfalso; simp_all; done) | (exfalso; omega)
theorem e_mark (m : Mark) : Pure Tryz.prog 132 [many (markC m), many (markC m)] (bR true) := by
 refine pure_intro (N := 20) Tryz.func132 rfl rfl rfl rfl (fun H w => ?_)
 refine sq (rg (evl_e (e_box rfl rfl rfl rfl) (evl_e (e_box rfl rfl rfl rfl) (xs rfl rfl (nl (et (sq (sq (rg (xf ttOk rfl rfl (xl ttOk rfl rfl (xf ttOk rfl rfl (xl ttOk rfl rfl (xb ttOk rfl rfl (nl (et (ev_cond rfl (fun h1 => ?_) (fun h1 => ?_))))))))))))))))))
 · try have d1 := of_decide_eq_true h1
   refine sq (rg (xs rfl rfl (nl (et (ev_ret (evr_then (ret_pure' ttOk rfl rfl (congrArg bR (?_ : _ = _)))))))))
   first | rfl | (exfalso; simp_all; done) | (exfalso; omega)
 · try have d1 := of_decide_eq_false h1
   refine ev_skip (et (sq (sq (rg (xf ttOk rfl rfl (xl ttOk rfl rfl (xf ttOk rfl rfl (xl ttOk rfl rfl (xb ttOk rfl rfl (nl (et (ev_cond rfl (fun h2 => ?_) (fun h2 => ?_)))))))))))))
   · try have d2 := of_decide_eq_true h2
     refine sq (rg (xs rfl rfl (nl (et (ev_ret (evr_then (ret_pure' ttOk rfl rfl (congrArg bR (?_ : _ = _)))))))))
     first | rfl | (exfalso; simp_all; done) | (exfalso; omega)
   · try have d2 := of_decide_eq_false h2
     refine ev_skip (et (sq (sq (rg (xf ttOk rfl rfl (xl ttOk rfl rfl (xf ttOk rfl rfl (xl ttOk rfl rfl (xb ttOk rfl rfl (nl (et (ev_cond rfl (fun h3 => ?_) (fun h3 => ?_)))))))))))))
     · try have d3 := of_decide_eq_true h3
       refine sq (rg (xs rfl rfl (nl (et (ev_ret (evr_then (ret_pure' ttOk rfl rfl (congrArg bR (?_ : _ = _)))))))))
       first | rfl | (exfalso; simp_all; done) | (exfalso; omega)
     · try have d3 := of_decide_eq_false h3
       refine ev_skip (et (sq (rg (xs rfl rfl (nl (et (ev_ret (ret_pure' ttOk rfl rfl (congrArg bR (?_ : _ = _))))))))))
       first | rfl | (exfalso; simp_all; done) | (exfalso; omega)
theorem e_marks (l : List Mark) : Pure Tryz.prog 61 [one (marks l), one (marks l)] (bR true) := by
 refine pure_intro (N := 27) Tryz.func61 rfl rfl rfl rfl (fun H w => ?_)
 refine ev_lenm (t := 0) rfl (fun hL => ?_)
 refine ev_lenm (t := 1) rfl (fun hM => ?_)
 refine sq (rg (xs rfl rfl (nl (et (sq (sq (rg (xm rfl rfl (xo (q_len_map ttOk rfl rfl) rfl (xm rfl rfl (xo (q_len_map ttOk rfl rfl) rfl (xb ttOk rfl rfl (nl (et (ev_cond rfl (fun h1 => ?_) (fun h1 => ?_))))))))))))))))
 · try have d1 := of_decide_eq_true h1
   refine sq (rg (xs rfl rfl (nl (et (ev_ret (evr_then (ret_pure' ttOk rfl rfl (congrArg bR (?_ : _ = _)))))))))
   first | rfl | (exfalso; simp_all; done) | (exfalso; omega)
 · try have d1 := of_decide_eq_false h1
   refine ev_skip (et (sq (sq (rg (xs rfl rfl (nl (et (ev_blk (ev_loop (fun k : Nat => (⟨[(5, iV k), (0, cV (marks l)), (1, cV (marks l))], [], [], []⟩ : St)) (fun k => k ≤ l.length) (fun k => l.length - k) 0 [] (by simp) ⟨by (repeat first | exact trivial | refine ⟨rfl, ?_⟩), by (repeat first | exact trivial | refine ⟨rfl, ?_⟩), by (repeat first | exact trivial | refine ⟨⟨_, rfl, rfl⟩, ?_⟩), by (repeat first | exact trivial | refine ⟨⟨_, rfl, rfl⟩, ?_⟩), rfl⟩ ?_)))))))))
   intro k hp
   have p0 := hp
   show Ev _ _ _ _ (⟨[(5, iV k), (0, cV (marks l)), (1, cV (marks l))], [], [], []⟩ : St)
   refine sq (sq (rg (xm rfl rfl (xm rfl rfl (xo (q_len_map ttOk rfl rfl) rfl (xb ttOk rfl rfl (nl (et (ev_cond rfl (fun h2 => ?_) (fun h2 => ?_))))))))))
   · try have d2 := of_decide_eq_true h2
     refine ev_skip (et (sq (ev_blk (sq (ev_drawq [] mo (rdk_take 0 rfl (by kernel_rfl) trivial (q_move rfl) rfl (rdk_take 1 rfl (by kernel_rfl) trivial (q_move rfl) rfl (rdk_take 2 rfl (by kernel_rfl) trivial (q_ix_map ttOk rfl rfl rfl rfl (by omega)) rfl (rdk_take 3 rfl (by kernel_rfl) trivial (q_load ttOk rfl) rfl (rdk_take 4 rfl (by kernel_rfl) trivial (q_move rfl) rfl (rdk_take 5 rfl (by kernel_rfl) trivial (q_move rfl) rfl (rdk_take 6 rfl (by kernel_rfl) trivial (q_ix_map ttOk rfl rfl rfl rfl (by omega)) rfl (rdk_take 7 rfl (by kernel_rfl) trivial (q_load ttOk rfl) rfl (rdk_one 8 (by kernel_rfl) (rdo_call (nm := 25) rfl trivial (cf rfl) (e_mark ⟨_, _, _⟩) (rs_of rfl) rfl rfl rfl (rdk_take 9 rfl (by kernel_rfl) trivial (q_not rfl) rfl (rdk_endq (by kernel_rfl) (et (ev_cond_n rfl (fun h3 => ?_) (fun h3 => ?_))))))))))))))))))))
     · try have d3 := of_decide_eq_false h3
       refine sq (rg (xs rfl rfl (nl (et (ev_ret (evr_blk (evr_then (evr_then (evr_blk (evr_then (ret_pure' ttOk rfl rfl (congrArg bR (?_ : _ = _)))))))))))))
       first | rfl | (exfalso; simp_all; done) | (exfalso; omega)
     · try have d3 := of_decide_eq_true h3
       refine ev_skip (eb (et (rg (xm rfl rfl (xa rfl rfl rfl (by omega) rfl (xs rfl rfl (nl (eve_round (k + 1) [] ?hp ⟨by (repeat first | exact trivial | refine ⟨rfl, ?_⟩), by (repeat first | exact trivial | refine ⟨rfl, ?_⟩), by (repeat first | exact trivial | refine ⟨⟨_, rfl, rfl⟩, ?_⟩), by (repeat first | exact trivial | refine ⟨⟨_, rfl, rfl⟩, ?_⟩), rfl⟩))))))))
       case hp => exact ⟨by omega, by omega⟩
   · try have d2 := of_decide_eq_false h2
     refine ev_exit (evx_then (evx_then (evx_hit (et (sq (rg (xs rfl rfl (nl (et (ev_ret (ret_pure' ttOk rfl rfl (congrArg bR (?_ : _ = _)))))))))))))
     first | rfl | (exfalso; simp_all; done) | (exfalso; omega)
theorem e_head (h : Head) : Pure Tryz.prog 26 [many (headC h), many (headC h)] (bR true) := by
 refine pure_intro (N := 26) Tryz.func26 rfl rfl rfl rfl (fun H w => ?_)
 refine sq (rg (evl_e (e_box rfl rfl rfl rfl) (evl_e (e_box rfl rfl rfl rfl) (xs rfl rfl (nl (et (sq (sq (rg (xf ttOk rfl rfl (xl ttOk rfl rfl (xf ttOk rfl rfl (xl ttOk rfl rfl (xb ttOk rfl rfl (nl (et (ev_cond rfl (fun h1 => ?_) (fun h1 => ?_))))))))))))))))))
 · try have d1 := of_decide_eq_true h1
   refine sq (rg (xs rfl rfl (nl (et (ev_ret (evr_then (ret_pure' ttOk rfl rfl (congrArg bR (?_ : _ = _)))))))))
   first | rfl | (exfalso; simp_all; done) | (exfalso; omega)
 · try have d1 := of_decide_eq_false h1
   refine ev_skip (et (sq (sq (rg (xf ttOk rfl rfl (xl ttOk rfl rfl (xf ttOk rfl rfl (xl ttOk rfl rfl (xb ttOk rfl rfl (nl (et (ev_cond rfl (fun h2 => ?_) (fun h2 => ?_)))))))))))))
   · try have d2 := of_decide_eq_true h2
     refine sq (rg (xs rfl rfl (nl (et (ev_ret (evr_then (ret_pure' ttOk rfl rfl (congrArg bR (?_ : _ = _)))))))))
     first | rfl | (exfalso; simp_all; done) | (exfalso; omega)
   · try have d2 := of_decide_eq_false h2
     refine ev_skip (et (sq (sq (rg (xf ttOk rfl rfl (xl ttOk rfl rfl (xf ttOk rfl rfl (xl ttOk rfl rfl (xb ttOk rfl rfl (nl (et (ev_cond rfl (fun h3 => ?_) (fun h3 => ?_)))))))))))))
     · try have d3 := of_decide_eq_true h3
       refine sq (rg (xs rfl rfl (nl (et (ev_ret (evr_then (ret_pure' ttOk rfl rfl (congrArg bR (?_ : _ = _)))))))))
       first | rfl | (exfalso; simp_all; done) | (exfalso; omega)
     · try have d3 := of_decide_eq_false h3
       refine ev_skip (et (sq (sq (rg (xf ttOk rfl rfl (xl ttOk rfl rfl (xf ttOk rfl rfl (xl ttOk rfl rfl (evl_call (nm := 24) (cf rfl) (e_marks _) (rs_of rfl) rfl rfl rfl (xo (q_not rfl) rfl (nl (et (ev_cond_n rfl (fun h4 => ?_) (fun h4 => ?_))))))))))))))
       · try have d4 := of_decide_eq_false h4
         refine sq (rg (xs rfl rfl (nl (et (ev_ret (evr_then (ret_pure' ttOk rfl rfl (congrArg bR (?_ : _ = _)))))))))
         first | rfl | (exfalso; simp_all; done) | (exfalso; omega)
       · try have d4 := of_decide_eq_true h4
         refine ev_skip (et (sq (rg (xs rfl rfl (nl (et (ev_ret (ret_pure' ttOk rfl rfl (congrArg bR (?_ : _ = _))))))))))
         first | rfl | (exfalso; simp_all; done) | (exfalso; omega)

end Go.Proofs.YtphaggopgdbojaaGreat
namespace Go.Proofs.YtphaggopgdbojaaGreat
open Go.ChangeShapes Go.WideShapes Go.ChangeAt Go.RowKit
set_option linter.unusedVariables false
set_option linter.unusedSimpArgs false
set_option maxHeartbeats 1000000
set_option maxRecDepth 100000
attribute [local irreducible] EvL Ev EvE Quiet Eff Pure RDk RDb RDo
def sumN {α : Type} (f : α → Nat) (l : List α) : Nat := (l.map f).sum
theorem sumN_next {α : Type} {f : α → Nat} {l : List α} {k : Nat} (hk : k < l.length) : sumN f (l.take (k + 1)) = sumN f (l.take k) + f l[k] := by
  unfold sumN
  rw [List.take_succ_eq_append_getElem hk, List.map_append, List.sum_append]
  simp only [List.map_cons, List.map_nil, List.sum_cons, List.sum_nil, Nat.add_zero]
theorem sumN_le {α : Type} (f : α → Nat) : ∀ (l : List α) (k : Nat), sumN f (l.take k) ≤ sumN f l
  | [], k => by simp [sumN]
  | a :: l, 0 => by simp [sumN]
  | a :: l, k + 1 => by have := sumN_le f l k; simp only [sumN, List.take_succ_cons, List.map_cons, List.sum_cons] at *; omega
theorem sumN_all {α : Type} {f : α → Nat} {l : List α} {k : Nat} (hk : ¬ k < l.length) : sumN f (l.take k) = sumN f l := by rw [List.take_of_length_le (by omega)]
theorem sumN_mem {α : Type} {f : α → Nat} {l : List α} {k : Nat} (hk : k < l.length) : f l[k] ≤ sumN f l := by
  have := sumN_le f l (k + 1)
  rw [sumN_next hk] at this
  omega
def rowsN (K : List (List Int)) : Nat := K.length + sumN List.length K
def writesN (W : List (Int × List Int)) : Nat := W.length + sumN (fun x => x.2.length) W
def diskN (d : Disk) : Nat := rowsN d.kept + writesN d.wait
def twoN (t : Two) : Nat := diskN t.a + diskN t.b
def szB (z : Int) (n : Nat) : Int := if z < n then -1 else z - n
theorem szB_is {z v : Int} {n : Nat} (h1 : z < n → v = -1) (h2 : ¬ z < n → v = z - n) : v = szB z n := by unfold szB; split <;> simp_all
theorem szB_neg {z : Int} {n : Nat} (h : szB z n < 0) : z < n := by unfold szB at h; split at h <;> omega
theorem szB_pos {z : Int} {n : Nat} (h : ¬ szB z n < 0) : (n : Int) ≤ z ∧ szB z n = z - n := by unfold szB at *; split at h <;> omega
def mixR {α : Type} (f : α → List C) (z : List C) (l : List α) (k : Nat) : List (List C) := (l.take k).map f ++ List.replicate (l.length - k) z
theorem mixR_zero {α : Type} (f : α → List C) (z : List C) (l : List α) : List.replicate l.length z = mixR f z l 0 := by simp [mixR]
theorem mixR_len {α : Type} {f : α → List C} {z : List C} {l : List α} {k : Nat} (hk : k ≤ l.length) : (mixR f z l k).length = l.length := by simp [mixR]; omega
theorem mixR_at {α : Type} {f : α → List C} {z : List C} {l : List α} {k : Nat} (hk : k < l.length) : (mixR f z l k)[k]? = some z := by
  unfold mixR
  rw [List.getElem?_append_right (by simp; omega)]
  simp only [List.length_map, List.length_take, List.getElem?_replicate]
  rw [if_pos (by omega)]
theorem mixR_set {α : Type} {f : α → List C} {z : List C} {l : List α} {k : Nat} (hk : k < l.length) : mixR f z l (k + 1) = (mixR f z l k).set k (f l[k]) := by
  unfold mixR
  have h1 : ((l.take k).map f).length = k := by simp; omega
  rw [List.set_append_right _ _ (by omega), h1, Nat.sub_self, List.take_succ_eq_append_getElem hk]
  have h2 : l.length - k = (l.length - (k + 1)) + 1 := by omega
  rw [h2, List.replicate_succ]
  simp only [List.map_append, List.map_cons, List.map_nil, List.set_cons_zero, List.append_assoc, List.cons_append, List.nil_append]
theorem mixR_all {α : Type} {f : α → List C} {z : List C} {l : List α} {k : Nat} (hk : ¬ k < l.length) : mixR f z l k = l.map f := by
  unfold mixR
  rw [List.take_of_length_le (by omega), show l.length - k = 0 by omega]
  simp
theorem z_ints (l : List Int) (z : Int) (h : 0 ≤ z ∧ z ≤ 1048576) : Pure Tryz.prog 194 [one (ints l), one (iC z)] (iR (szB z l.length)) := by
 refine pure_intro (N := 12) Tryz.func194 rfl rfl rfl rfl (fun H w => ?_)
 refine ev_lenm (t := 0) rfl (fun hL => ?_)
 refine sq (rg (xs rfl rfl (nl (et (sq (rg (xm rfl rfl (xm rfl rfl (xo (q_len_map ttOk rfl rfl) rfl (xa rfl rfl rfl (by omega) rfl (xs rfl rfl (nl (et (sq (sq (rg (xm rfl rfl (xb ttOk rfl rfl (nl (et (ev_cond rfl (fun h1 => ?_) (fun h1 => ?_))))))))))))))))))))))
 · have d1 := of_decide_eq_true h1
   refine sq (rg (xs rfl rfl (nl (et (ev_ret (evr_then (ret_pure' ttOk rfl rfl (congrArg iR (?_ : _ = _)))))))))
   exact szB_is (fun _ => by omega) (fun _ => by omega)
 · have d1 := of_decide_eq_false h1
   refine ev_skip (et (sq (rg (xm rfl rfl (xs rfl rfl (nl (et (ev_ret (ret_pure' ttOk rfl rfl (congrArg iR (?_ : _ = _)))))))))))
   exact szB_is (fun _ => by omega) (fun _ => by omega)
theorem z_write (x : Int × List Int) (z : Int) (h : 0 ≤ z ∧ z ≤ 1048576) : Pure Tryz.prog 195 [many [iC x.1, ints x.2], one (iC z)] (iR (szB z x.2.length)) := by
 refine pure_intro (N := 12) Tryz.func195 rfl rfl rfl rfl (fun H w => ?_)
 refine sq (rg (evl_e (e_box rfl rfl rfl rfl) (xs rfl rfl (nl (et (sq (rg (xf ttOk rfl rfl (xl ttOk rfl rfl (xm rfl rfl (evl_call (nm := 8) (cf rfl) (z_ints _ _ (by omega)) (rs_of rfl) rfl rfl rfl (xs rfl rfl (nl (et (sq (sq (rg (xm rfl rfl (xb ttOk rfl rfl (nl (et (ev_cond rfl (fun h1 => ?_) (fun h1 => ?_)))))))))))))))))))))))
 · have d1 := of_decide_eq_true h1
   have e1 := szB_neg d1
   refine sq (rg (xs rfl rfl (nl (et (ev_ret (evr_then (ret_pure' ttOk rfl rfl (congrArg iR (?_ : _ = _)))))))))
   exact szB_is (fun _ => by omega) (fun _ => by omega)
 · have d1 := of_decide_eq_false h1
   have e1 := szB_pos d1
   refine ev_skip (et (sq (rg (xm rfl rfl (xs rfl rfl (nl (et (ev_ret (ret_pure' ttOk rfl rfl (congrArg iR (?_ : _ = _)))))))))))
   exact szB_is (fun _ => by omega) (fun _ => by omega)
theorem z_rows (K : List (List Int)) (z : Int) (h : 0 ≤ z ∧ z ≤ 1048576) : Pure Tryz.prog 137 [one (rows K), one (iC z)] (iR (szB z (rowsN K))) := by
 refine pure_intro (N := 27) Tryz.func137 rfl rfl rfl rfl (fun H w => ?_)
 refine ev_lenm (t := 0) rfl (fun hL => ?_)
 refine sq (rg (xs rfl rfl (nl (et (sq (rg (xm rfl rfl (xm rfl rfl (xo (q_len_map ttOk rfl rfl) rfl (xa rfl rfl rfl (by omega) rfl (xs rfl rfl (nl (et (sq (sq (rg (xm rfl rfl (xb ttOk rfl rfl (nl (et (ev_cond rfl (fun h1 => ?_) (fun h1 => ?_))))))))))))))))))))))
 · have d1 := of_decide_eq_true h1
   refine sq (rg (xs rfl rfl (nl (et (ev_ret (evr_then (ret_pure' ttOk rfl rfl ?_)))))))
   unfold rowsN
   refine congrArg iR (?_ : _ = _)
   exact szB_is (fun _ => by omega) (fun _ => by omega)
 · have d1 := of_decide_eq_false h1
   refine ev_skip (et (sq (sq (rg (xs rfl rfl (nl (et (ev_blk (ev_loop (fun i : Nat × Int => (⟨[(5, iV i.1), (0, cV (rows K)), (1, iV i.2)], [], [], []⟩ : St)) (fun i => i.1 ≤ K.length ∧ i.2 = z - K.length - sumN List.length (K.take i.1) ∧ 0 ≤ i.2) (fun i => K.length - i.1) (0, z - K.length) [] (⟨by simp, by simp [sumN], by omega⟩) ⟨by (repeat first | exact trivial | refine ⟨rfl, ?_⟩), by (repeat first | exact trivial | refine ⟨rfl, ?_⟩), by (repeat first | exact trivial | refine ⟨⟨_, rfl, rfl⟩, ?_⟩), by (repeat first | exact trivial | refine ⟨⟨_, rfl, rfl⟩, ?_⟩), rfl⟩ ?_)))))))))
   intro i hp
   obtain ⟨k, y⟩ := i
   have hp : k ≤ K.length ∧ y = z - K.length - sumN List.length (K.take k) ∧ 0 ≤ y := hp
   obtain ⟨p0, p1, p2⟩ := hp
   show Ev _ _ _ _ (⟨[(5, iV k), (0, cV (rows K)), (1, iV y)], [], [], []⟩ : St)
   refine sq (sq (rg (xm rfl rfl (xm rfl rfl (xo (q_len_map ttOk rfl rfl) rfl (xb ttOk rfl rfl (nl (et (ev_cond rfl (fun h2 => ?_) (fun h2 => ?_))))))))))
   · have d2 := of_decide_eq_true h2
     have s1 := sumN_next (f := List.length) (l := K) (k := k) (by omega)
     have s2 := sumN_le List.length K (k + 1)
     refine ev_skip (et (sq (ev_blk (sq (rg (xm rfl rfl (xm rfl rfl (xo (q_ix_map ttOk rfl rfl rfl rfl (by omega)) rfl (xl ttOk rfl rfl (xm rfl rfl (evl_call (nm := 23) (cf rfl) (z_ints (K[k]'(by omega)) _ (by omega)) (rs_of rfl) rfl rfl rfl (xs rfl rfl (nl (et (sq (rg (xm rfl rfl (xb ttOk rfl rfl (nl (et (ev_cond rfl (fun h3 => ?_) (fun h3 => ?_))))))))))))))))))))))
     · have d3 := of_decide_eq_true h3
       have e3 := szB_neg d3
       refine sq (rg (xs rfl rfl (nl (et (ev_ret (evr_blk (evr_then (evr_then (evr_blk (evr_then (ret_pure' ttOk rfl rfl ?_)))))))))))
       unfold rowsN
       refine congrArg iR (?_ : _ = _)
       exact szB_is (fun _ => by omega) (fun _ => by omega)
     · have d3 := of_decide_eq_false h3
       have e3 := szB_pos d3
       refine ev_skip (eb (et (rg (xm rfl rfl (xa rfl rfl rfl (by omega) rfl (xs rfl rfl (nl (eve_round (k + 1, szB y (K[k]'(by omega)).length) [] ?hp ⟨by (repeat first | exact trivial | refine ⟨rfl, ?_⟩), by (repeat first | exact trivial | refine ⟨rfl, ?_⟩), by (repeat first | exact trivial | refine ⟨⟨_, rfl, rfl⟩, ?_⟩), by (repeat first | exact trivial | refine ⟨⟨_, rfl, rfl⟩, ?_⟩), rfl⟩))))))))
       case hp =>
         dsimp only
         exact ⟨⟨by omega, by omega, by omega⟩, by omega⟩
   · have d2 := of_decide_eq_false h2
     have s3 := sumN_all (f := List.length) (l := K) (k := k) (by omega)
     refine ev_exit (evx_then (evx_then (evx_hit (et (sq (rg (xm rfl rfl (xs rfl rfl (nl (et (ev_ret (ret_pure' ttOk rfl rfl ?_))))))))))))
     unfold rowsN
     refine congrArg iR (?_ : _ = _)
     exact szB_is (fun _ => by omega) (fun _ => by omega)
theorem z_writes (W : List (Int × List Int)) (z : Int) (h : 0 ≤ z ∧ z ≤ 1048576) : Pure Tryz.prog 138 [one (writes W), one (iC z)] (iR (szB z (writesN W))) := by
 refine pure_intro (N := 27) Tryz.func138 rfl rfl rfl rfl (fun H w => ?_)
 refine ev_lenm (t := 0) rfl (fun hL => ?_)
 refine sq (rg (xs rfl rfl (nl (et (sq (rg (xm rfl rfl (xm rfl rfl (xo (q_len_map ttOk rfl rfl) rfl (xa rfl rfl rfl (by omega) rfl (xs rfl rfl (nl (et (sq (sq (rg (xm rfl rfl (xb ttOk rfl rfl (nl (et (ev_cond rfl (fun h1 => ?_) (fun h1 => ?_))))))))))))))))))))))
 · have d1 := of_decide_eq_true h1
   refine sq (rg (xs rfl rfl (nl (et (ev_ret (evr_then (ret_pure' ttOk rfl rfl ?_)))))))
   unfold writesN
   refine congrArg iR (?_ : _ = _)
   exact szB_is (fun _ => by omega) (fun _ => by omega)
 · have d1 := of_decide_eq_false h1
   refine ev_skip (et (sq (sq (rg (xs rfl rfl (nl (et (ev_blk (ev_loop (fun i : Nat × Int => (⟨[(5, iV i.1), (0, cV (writes W)), (1, iV i.2)], [], [], []⟩ : St)) (fun i => i.1 ≤ W.length ∧ i.2 = z - W.length - sumN (fun x => x.2.length) (W.take i.1) ∧ 0 ≤ i.2) (fun i => W.length - i.1) (0, z - W.length) [] (⟨by simp, by simp [sumN], by omega⟩) ⟨by (repeat first | exact trivial | refine ⟨rfl, ?_⟩), by (repeat first | exact trivial | refine ⟨rfl, ?_⟩), by (repeat first | exact trivial | refine ⟨⟨_, rfl, rfl⟩, ?_⟩), by (repeat first | exact trivial | refine ⟨⟨_, rfl, rfl⟩, ?_⟩), rfl⟩ ?_)))))))))
   intro i hp
   obtain ⟨k, y⟩ := i
   have hp : k ≤ W.length ∧ y = z - W.length - sumN (fun x => x.2.length) (W.take k) ∧ 0 ≤ y := hp
   obtain ⟨p0, p1, p2⟩ := hp
   show Ev _ _ _ _ (⟨[(5, iV k), (0, cV (writes W)), (1, iV y)], [], [], []⟩ : St)
   refine sq (sq (rg (xm rfl rfl (xm rfl rfl (xo (q_len_map ttOk rfl rfl) rfl (xb ttOk rfl rfl (nl (et (ev_cond rfl (fun h2 => ?_) (fun h2 => ?_))))))))))
   · have d2 := of_decide_eq_true h2
     have s1 := sumN_next (f := (fun x => x.2.length)) (l := W) (k := k) (by omega)
     have s2 := sumN_le (fun x => x.2.length) W (k + 1)
     refine ev_skip (et (sq (ev_blk (sq (rg (xm rfl rfl (xm rfl rfl (xo (q_ix_map ttOk rfl rfl rfl rfl (by omega)) rfl (xl ttOk rfl rfl (xm rfl rfl (evl_call (nm := 23) (cf rfl) (z_write (W[k]'(by omega)) _ (by omega)) (rs_of rfl) rfl rfl rfl (xs rfl rfl (nl (et (sq (rg (xm rfl rfl (xb ttOk rfl rfl (nl (et (ev_cond rfl (fun h3 => ?_) (fun h3 => ?_))))))))))))))))))))))
     · have d3 := of_decide_eq_true h3
       have e3 := szB_neg d3
       refine sq (rg (xs rfl rfl (nl (et (ev_ret (evr_blk (evr_then (evr_then (evr_blk (evr_then (ret_pure' ttOk rfl rfl ?_)))))))))))
       unfold writesN
       refine congrArg iR (?_ : _ = _)
       exact szB_is (fun _ => by omega) (fun _ => by omega)
     · have d3 := of_decide_eq_false h3
       have e3 := szB_pos d3
       refine ev_skip (eb (et (rg (xm rfl rfl (xa rfl rfl rfl (by omega) rfl (xs rfl rfl (nl (eve_round (k + 1, szB y (W[k]'(by omega)).2.length) [] ?hp ⟨by (repeat first | exact trivial | refine ⟨rfl, ?_⟩), by (repeat first | exact trivial | refine ⟨rfl, ?_⟩), by (repeat first | exact trivial | refine ⟨⟨_, rfl, rfl⟩, ?_⟩), by (repeat first | exact trivial | refine ⟨⟨_, rfl, rfl⟩, ?_⟩), rfl⟩))))))))
       case hp =>
         dsimp only
         exact ⟨⟨by omega, by omega, by omega⟩, by omega⟩
   · have d2 := of_decide_eq_false h2
     have s3 := sumN_all (f := (fun x => x.2.length)) (l := W) (k := k) (by omega)
     refine ev_exit (evx_then (evx_then (evx_hit (et (sq (rg (xm rfl rfl (xs rfl rfl (nl (et (ev_ret (ret_pure' ttOk rfl rfl ?_))))))))))))
     unfold writesN
     refine congrArg iR (?_ : _ = _)
     exact szB_is (fun _ => by omega) (fun _ => by omega)
theorem z_disk (d : Disk) (z : Int) (h : 0 ≤ z ∧ z ≤ 1048576) : Pure Tryz.prog 68 [many (diskC d), one (iC z)] (iR (szB z (diskN d))) := by
 refine pure_intro (N := 18) Tryz.func68 rfl rfl rfl rfl (fun H w => ?_)
 refine sq (rg (evl_e (e_box rfl rfl rfl rfl) (xs rfl rfl (nl (et (sq (rg (xf ttOk rfl rfl (xl ttOk rfl rfl (xm rfl rfl (evl_call (nm := 8) (cf rfl) (z_rows _ _ (by omega)) (rs_of rfl) rfl rfl rfl (xs rfl rfl (nl (et (sq (sq (rg (xm rfl rfl (xb ttOk rfl rfl (nl (et (ev_cond rfl (fun h1 => ?_) (fun h1 => ?_)))))))))))))))))))))))
 · have d1 := of_decide_eq_true h1
   have e1 := szB_neg d1
   refine sq (rg (xs rfl rfl (nl (et (ev_ret (evr_then (ret_pure' ttOk rfl rfl ?_)))))))
   unfold diskN
   refine congrArg iR (?_ : _ = _)
   exact szB_is (fun _ => by omega) (fun _ => by omega)
 · have d1 := of_decide_eq_false h1
   have e1 := szB_pos d1
   refine ev_skip (et (sq (rg (xf ttOk rfl rfl (xl ttOk rfl rfl (xm rfl rfl (evl_call (nm := 14) (cf rfl) (z_writes _ _ (by omega)) (rs_of rfl) rfl rfl rfl (xs rfl rfl (nl (et (sq (sq (rg (xm rfl rfl (xb ttOk rfl rfl (nl (et (ev_cond rfl (fun h2 => ?_) (fun h2 => ?_)))))))))))))))))))
   · have d2 := of_decide_eq_true h2
     have e2 := szB_neg d2
     refine sq (rg (xs rfl rfl (nl (et (ev_ret (evr_then (ret_pure' ttOk rfl rfl ?_)))))))
     unfold diskN
     refine congrArg iR (?_ : _ = _)
     exact szB_is (fun _ => by omega) (fun _ => by omega)
   · have d2 := of_decide_eq_false h2
     have e2 := szB_pos d2
     refine ev_skip (et (sq (rg (xm rfl rfl (xs rfl rfl (nl (et (ev_ret (ret_pure' ttOk rfl rfl ?_)))))))))
     unfold diskN
     refine congrArg iR (?_ : _ = _)
     exact szB_is (fun _ => by omega) (fun _ => by omega)
theorem z_two (t : Two) (z : Int) (h : 0 ≤ z ∧ z ≤ 1048576) : Pure Tryz.prog 18 [many (twoC t), one (iC z)] (iR (szB z (twoN t))) := by
 refine pure_intro (N := 18) Tryz.func18 rfl rfl rfl rfl (fun H w => ?_)
 refine sq (rg (evl_e (e_box rfl rfl rfl rfl) (xs rfl rfl (nl (et (sq (rg (xf ttOk rfl rfl (xl ttOk rfl rfl (xm rfl rfl ?_))))))))))
 first | refine evl_call (nm := 8) (cf rfl) (z_disk t.a _ (by omega)) (rs_of rfl) rfl rfl rfl ?_ | refine evl_call (nm := 8) (cf rfl) (z_disk t.b _ (by omega)) (rs_of rfl) rfl rfl rfl ?_
 refine xs rfl rfl (nl (et (sq (sq (rg (xm rfl rfl (xb ttOk rfl rfl (nl (et (ev_cond rfl (fun h1 => ?_) (fun h1 => ?_)))))))))))
 · have d1 := of_decide_eq_true h1
   have e1 := szB_neg d1
   refine sq (rg (xs rfl rfl (nl (et (ev_ret (evr_then (ret_pure' ttOk rfl rfl ?_)))))))
   unfold twoN
   refine congrArg iR (?_ : _ = _)
   exact szB_is (fun _ => by omega) (fun _ => by omega)
 · have d1 := of_decide_eq_false h1
   have e1 := szB_pos d1
   refine ev_skip (et (sq (rg (xf ttOk rfl rfl (xl ttOk rfl rfl (xm rfl rfl ?_))))))
   first | refine evl_call (nm := 14) (cf rfl) (z_disk t.a _ (by omega)) (rs_of rfl) rfl rfl rfl ?_ | refine evl_call (nm := 14) (cf rfl) (z_disk t.b _ (by omega)) (rs_of rfl) rfl rfl rfl ?_
   refine xs rfl rfl (nl (et (sq (sq (rg (xm rfl rfl (xb ttOk rfl rfl (nl (et (ev_cond rfl (fun h2 => ?_) (fun h2 => ?_)))))))))))
   · have d2 := of_decide_eq_true h2
     have e2 := szB_neg d2
     refine sq (rg (xs rfl rfl (nl (et (ev_ret (evr_then (ret_pure' ttOk rfl rfl ?_)))))))
     unfold twoN
     refine congrArg iR (?_ : _ = _)
     exact szB_is (fun _ => by omega) (fun _ => by omega)
   · have d2 := of_decide_eq_false h2
     have e2 := szB_pos d2
     refine ev_skip (et (sq (rg (xm rfl rfl (xs rfl rfl (nl (et (ev_ret (ret_pure' ttOk rfl rfl ?_)))))))))
     unfold twoN
     refine congrArg iR (?_ : _ = _)
     exact szB_is (fun _ => by omega) (fun _ => by omega)
end Go.Proofs.YtphaggopgdbojaaGreat
