/- Walks of functions of the program, printed by a program of the prover. -/
import Derived.Test.YtphaggopgdbojaaGreatRiF34
import Derived.Test.YtphaggopgdbojaaGreatRiVE
import Derived.Test.YtphaggopgdbojaaGreatRiVY
import Derived.Test.YtphaggopgdbojaaGreatRiVZ
namespace Go.Proofs.YtphaggopgdbojaaGreat
open Go.ChangeShapes Go.WideShapes Go.ChangeAt Go.RowKit
set_option linter.unusedVariables false
set_option linter.unusedSimpArgs false
set_option maxHeartbeats 1000000
set_option maxRecDepth 100000
attribute [local irreducible] EvL Ev EvE Quiet Eff Pure RDk RDb RDo
theorem so_len {l c : List Mark} {es : List Entry} (h : SOk l) (hc : overL l es = some c) : c.length ≤ 4 := seen_len (of_sok (over_sok h hc))
theorem c_SeenOver (l : List Mark) (es : List Entry) : Pure Tryz.prog 65 [one (marks l), one (entries es)] [one' (marksR (seenOverF l es).1), one' (RC.v (.bool (seenOverF l es).2))] := by
 refine pure_intro (N := 42) Tryz.func65 rfl rfl rfl rfl (fun H w => ?_)
 refine ev_lenm (t := 0) rfl (fun hL => ?_)
 refine ev_lenm (t := 1) rfl (fun hE => ?_)
 refine sq (rg (xs rfl rfl (xs rfl rfl (nl (et (sq (sq (rg (xm rfl rfl (evl_call (nm := 11) (cf rfl) (c_SeenOk l) (rs_of rfl) rfl rfl rfl (xo (q_not rfl) rfl (nl (et (ev_cond_n rfl (fun h1 => ?_) (fun h1 => ?_)))))))))))))))
 · try have d1 := of_decide_eq_false h1
   refine sq (rg (evl_e (e_lit ttOk rfl rfl rfl) (xs rfl rfl (xs rfl rfl (nl (et (ev_ret (evr_then (ret_pureN ttOk rfl rfl ?_)))))))))
   first
   | (rw [so1 (by assumption)]; simp [RpLe, L2, RcLe]; done)
   | (rw [so2 (by assumption) (by omega)]; simp [RpLe, L2, RcLe]; done)
   | (rw [so3 (by assumption) (over_stop hso (by omega) p1 (by assumption))]; simp [RpLe, L2, RcLe]; done)
   | (rw [so4 (by assumption) (by omega) (over_end (by omega) p1)]; simp [RpLe, L2, RcLe]; done)
 · try have d1 := of_decide_eq_true h1
   have hl4 := seen_len h1
   have hso := sok_of h1
   refine ev_skip (et (sq (sq (rg (xm rfl rfl (xo (q_len_map ttOk rfl rfl) rfl (xb ttOk rfl rfl (nl (et (ev_cond rfl (fun h2 => ?_) (fun h2 => ?_)))))))))))
   · try have d2 := of_decide_eq_true h2
     refine sq (rg (xm rfl rfl (evl_call (nm := 18) (cf rfl) (c_l9Copy l (by omega)) (rs_of rfl) rfl rfl rfl (xs rfl rfl (xs rfl rfl (nl (et (ev_ret (evr_then (ret_pureN ttOk rfl rfl ?_))))))))))
     first
     | (rw [so1 (by assumption)]; simp [RpLe, L2, RcLe]; done)
     | (rw [so2 (by assumption) (by omega)]; simp [RpLe, L2, RcLe]; done)
     | (rw [so3 (by assumption) (over_stop hso (by omega) p1 (by assumption))]; simp [RpLe, L2, RcLe]; done)
     | (rw [so4 (by assumption) (by omega) (over_end (by omega) p1)]; simp [RpLe, L2, RcLe]; done)
   · try have d2 := of_decide_eq_false h2
     refine ev_skip (et (sq (rg (xm rfl rfl (evl_call (nm := 20) (cf rfl) (c_l9Copy l (by omega)) (rs_of rfl) rfl rfl rfl (xs rfl rfl (nl (et (sq (sq (rg (xs rfl rfl (nl (et (ev_blk (ev_loop (fun i : Nat × List Mark => (⟨[(7, iV i.1), (0, cV (marks l)), (1, cV (entries es)), (6, .p false [.rt 101])], [], [(101, 148, 3, (i.2.map markC))], []⟩ : St)) (fun i => i.1 ≤ es.length ∧ overL l (es.take i.1) = some i.2) (fun i => es.length - i.1) (0, l) [(101, 20)] (⟨by simp, rfl⟩) ⟨by (repeat first | exact trivial | refine ⟨rfl, ?_⟩), by (repeat first | exact trivial | refine ⟨rfl, ?_⟩), ⟨⟨_, rfl, by rfl⟩, trivial⟩, by (repeat first | exact trivial | refine ⟨⟨_, rfl, rfl⟩, ?_⟩), rfl⟩ ?_))))))))))))))))
     intro i hp
     obtain ⟨k, c⟩ := i
     have hp : k ≤ es.length ∧ overL l (es.take k) = some c := hp
     obtain ⟨p0, p1⟩ := hp
     show Ev _ _ _ _ (⟨[(7, iV k), (0, cV (marks l)), (1, cV (entries es)), (6, .p false [.rt 101])], [], [(101, 148, 3, (c.map markC))], []⟩ : St)
     have hcl := so_len hso p1
     refine sq (sq (rg (xm rfl rfl (xm rfl rfl (xo (q_len_map ttOk rfl rfl) rfl (xb ttOk rfl rfl (nl (et (ev_cond rfl (fun h3 => ?_) (fun h3 => ?_))))))))))
     · try have d3 := of_decide_eq_true h3
       refine ev_skip (et (sq (ev_blk (sq (rg (xm rfl rfl (xm rfl rfl (xm rfl rfl (xo (q_ix_map ttOk rfl rfl rfl rfl (by omega)) rfl (xl ttOk rfl rfl (evl_call (nm := 33) (cf rfl) (c_Marked c es[k]) (rs_of rfl) rfl rfl rfl (xm rfl rfl (xo (q_ext rfl) rfl (xo (q_ext rfl) rfl (xs rfl rfl (xs rfl rfl (nl (et (sq (sq (rg (xm rfl rfl (xo (q_not rfl) rfl (nl (et (ev_cond_n rfl (fun h4 => ?_) (fun h4 => ?_)))))))))))))))))))))))))))
       · try have d4 := of_decide_eq_false h4
         refine sq (rg (xm rfl rfl (evl_call (nm := 39) (cf rfl) (c_l9Copy l (by omega)) (rs_of rfl) rfl rfl rfl (xs rfl rfl (xs rfl rfl (nl (et (ev_ret (evr_then (evr_blk (evr_then (evr_then (evr_blk (evr_then (ret_pureN ttOk rfl rfl ?_)))))))))))))))
         first
         | (rw [so1 (by assumption)]; simp [RpLe, L2, RcLe]; done)
         | (rw [so2 (by assumption) (by omega)]; simp [RpLe, L2, RcLe]; done)
         | (rw [so3 (by assumption) (over_stop hso (by omega) p1 (by assumption))]; simp [RpLe, L2, RcLe]; done)
         | (rw [so4 (by assumption) (by omega) (over_end (by omega) p1)]; simp [RpLe, L2, RcLe]; done)
       · try have d4 := of_decide_eq_true h4
         refine ev_skip (et (rg (xm rfl rfl (xs rfl rfl (nl (eb (et (rg (xm rfl rfl (xa rfl rfl rfl (by omega) rfl (xs rfl rfl (nl (eve_round (k + 1, (markedF c es[k]).1) [(101, 33)] ?hp ⟨by (repeat first | exact trivial | refine ⟨rfl, ?_⟩), by (repeat first | exact trivial | refine ⟨rfl, ?_⟩), ⟨⟨_, rfl, by rfl⟩, trivial⟩, by (repeat first | exact trivial | refine ⟨⟨_, rfl, rfl⟩, ?_⟩), rfl⟩)))))))))))))
         case hp => exact ⟨⟨by omega, over_marked hso (by omega) p1 (by assumption)⟩, by omega⟩
     · try have d3 := of_decide_eq_false h3
       refine ev_exit (evx_then (evx_then (evx_hit (et (sq (rg (xm rfl rfl (xs rfl rfl (xs rfl rfl (nl (et (ev_ret (ret_pureN ttOk rfl rfl ?_)))))))))))))
       first
       | (rw [so1 (by assumption)]; simp [RpLe, L2, RcLe]; done)
       | (rw [so2 (by assumption) (by omega)]; simp [RpLe, L2, RcLe]; done)
       | (rw [so3 (by assumption) (over_stop hso (by omega) p1 (by assumption))]; simp [RpLe, L2, RcLe]; done)
       | (rw [so4 (by assumption) (by omega) (over_end (by omega) p1)]; simp [RpLe, L2, RcLe]; done)
theorem c_SeenOver' (l : List Mark) (es : List Entry) : Pure Tryz.prog 66 [one (marks l), one (entries es)] [one' (marksR (seenOverF l es).1), one' (RC.v (.bool (seenOverF l es).2))] := by
 refine pure_intro (N := 98) Tryz.func66 rfl rfl rfl rfl (fun H w => ?_)
 refine ev_lenm (t := 0) rfl (fun hL => ?_)
 refine ev_lenm (t := 1) rfl (fun hE => ?_)
 refine sq (rg (xs rfl rfl (xs rfl rfl (nl (et (sq (sq (rg (xm rfl rfl (evl_call (nm := 17) (cf rfl) (c_SeenOk' l) (rs_of rfl) rfl rfl rfl (xo (q_not rfl) rfl (nl (et (ev_cond_n rfl (fun h1 => ?_) (fun h1 => ?_)))))))))))))))
 · try have d1 := of_decide_eq_false h1
   refine sq (rg (xs rfl rfl (xs rfl rfl (nl (et (ev_ret (evr_then (ret_pureN ttOk rfl rfl ?_))))))))
   first
   | (rw [so1 (by assumption)]; simp [RpLe, L2, RcLe]; done)
   | (rw [so2 (by assumption) (by omega)]; simp [RpLe, L2, RcLe]; done)
   | (rw [so3 (by assumption) (over_no (by omega) p1 (fresh_no1 (by assumption)))]; simp [RpLe, L2, RcLe]; done)
   | (rw [so3 (by assumption) (over_no (by omega) p1 (fresh_no4 (by assumption)))]; simp [RpLe, L2, RcLe]; done)
   | (rw [so3 (by assumption) (over_no (by omega) p1 (fresh_no3 (by assumption)))]; simp [RpLe, L2, RcLe]; done)
   | (obtain rfl : j = 4 := by omega
      rw [so4 (by assumption) (by omega) (over_end (by omega) p1), outF_all hsc]; simp [RpLe, L2, RcLe]; done)
 · try have d1 := of_decide_eq_true h1
   have hl4 := seen_len h1
   have hso := sok_of h1
   refine ev_skip (et (sq (sq (rg (xm rfl rfl (xo (q_len_map ttOk rfl rfl) rfl (xb ttOk rfl rfl (nl (et (ev_cond rfl (fun h2 => ?_) (fun h2 => ?_)))))))))))
   · try have d2 := of_decide_eq_true h2
     refine sq (rg (xm rfl rfl (evl_call (nm := 23) (cf rfl) (c_copySeen l (by omega)) (rs_of rfl) rfl rfl rfl (xs rfl rfl (xs rfl rfl (nl (et (ev_ret (evr_then (ret_pureN ttOk rfl rfl ?_))))))))))
     first
     | (rw [so1 (by assumption)]; simp [RpLe, L2, RcLe]; done)
     | (rw [so2 (by assumption) (by omega)]; simp [RpLe, L2, RcLe]; done)
     | (rw [so3 (by assumption) (over_no (by omega) p1 (fresh_no1 (by assumption)))]; simp [RpLe, L2, RcLe]; done)
     | (rw [so3 (by assumption) (over_no (by omega) p1 (fresh_no4 (by assumption)))]; simp [RpLe, L2, RcLe]; done)
     | (rw [so3 (by assumption) (over_no (by omega) p1 (fresh_no3 (by assumption)))]; simp [RpLe, L2, RcLe]; done)
     | (obtain rfl : j = 4 := by omega
        rw [so4 (by assumption) (by omega) (over_end (by omega) p1), outF_all hsc]; simp [RpLe, L2, RcLe]; done)
   · try have d2 := of_decide_eq_false h2
     refine ev_skip (et (sq (rg (evl_e (e_mkmap (kt := 2) (et := 148) (by kernel_rfl) rfl rfl) (xs rfl rfl (nl (et (sq (sq (rg (xm rfl rfl (xo (q_len_map ttOk rfl rfl) rfl (xm rfl rfl (nl (et (ev_blk (ev_loop (fun k : Nat => (⟨[(27, iV k), (25, cV (marks l)), (26, iV l.length), (0, cV (marks l)), (1, cV (entries es)), (6, .p false [.mp 24])], [], [], [(24, mapF (l.take k))]⟩ : St)) (fun k => k ≤ l.length) (fun k => l.length - k) 0 [] (by simp) ⟨by (repeat first | exact trivial | refine ⟨rfl, ?_⟩), by (repeat first | exact trivial | refine ⟨rfl, ?_⟩), by (repeat first | exact trivial | refine ⟨⟨_, rfl, rfl⟩, ?_⟩), ⟨⟨_, rfl, rfl⟩, trivial⟩, rfl⟩ ?_)))))))))))))))))
     intro k hp
     have p0 := hp
     show Ev _ _ _ _ (⟨[(27, iV k), (25, cV (marks l)), (26, iV l.length), (0, cV (marks l)), (1, cV (entries es)), (6, .p false [.mp 24])], [], [], [(24, mapF (l.take k))]⟩ : St)
     refine sq (rg (xb ttOk rfl rfl (nl (et (sq (ev_cond rfl (fun h3 => ?_) (fun h3 => ?_)))))))
     · try have d3 := of_decide_eq_true h3
       refine ev_skip (et (sq (ev_blk (sq (rg (xo (q_ix_map ttOk rfl rfl rfl rfl (by omega)) rfl (xl ttOk rfl rfl (evl_e (e_alloc ttOk rfl rfl rfl rfl) (xst ttOk rfl rfl (nl (et (rg (xm rfl rfl (xf ttOk rfl rfl (xl ttOk rfl rfl (xl ttOk rfl rfl (evl_e (e_mapset (f' := mapF (l.take (k + 1))) (kt := 2) (et := 148) (by kernel_rfl) rfl rfl rfl rfl rfl (mapA_next hso (by omega)) rfl) (nl (eb (et (rg (xa rfl rfl rfl (by omega) rfl (xm rfl rfl (nl (eve_round (k + 1) [] ?hp ⟨by (repeat first | exact trivial | refine ⟨rfl, ?_⟩), by (repeat first | exact trivial | refine ⟨rfl, ?_⟩), by (repeat first | exact trivial | refine ⟨⟨_, rfl, rfl⟩, ?_⟩), by (repeat first | exact trivial | refine ⟨⟨_, rfl, rfl⟩, ?_⟩), rfl⟩)))))))))))))))))))))))))
       case hp => exact ⟨by omega, by omega⟩
     · try have d3 := of_decide_eq_false h3
       refine ev_exit (evx_then (evx_then (evx_hit (et (sq (rg (xm rfl rfl (evl_call (nm := 37) (cf rfl) (c_lastSeen l) (rs_of rfl) rfl rfl rfl (xs rfl rfl (nl (et (sq (sq (rg (xm rfl rfl (xo (q_len_map ttOk rfl rfl) rfl (xm rfl rfl (nl (et (ev_blk (ev_loop (fun i : Nat × List Mark × Int => (⟨[(40, iV i.1), (38, cV (entries es)), (39, iV es.length), (0, cV (marks l)), (6, .p false [.mp 24]), (9, iV i.2.2)], [], [], [(24, mapF i.2.1)]⟩ : St)) (fun i => i.1 ≤ es.length ∧ overL l (es.take i.1) = some i.2.1 ∧ i.2.2 = lastF i.2.1) (fun i => es.length - i.1) (0, l, lastF l) [] (⟨by simp, rfl, rfl⟩) ⟨by (repeat first | exact trivial | refine ⟨rfl, ?_⟩), by (repeat first | exact trivial | refine ⟨rfl, ?_⟩), by (repeat first | exact trivial | refine ⟨⟨_, rfl, rfl⟩, ?_⟩), ⟨⟨_, rfl, by rw [List.take_of_length_le (by omega)]⟩, trivial⟩, rfl⟩ ?_)))))))))))))))))))))
       intro i hp
       obtain ⟨k, c, s⟩ := i
       have hp : k ≤ es.length ∧ overL l (es.take k) = some c ∧ s = lastF c := hp
       obtain ⟨p0, p1, p2⟩ := hp
       show Ev _ _ _ _ (⟨[(40, iV k), (38, cV (entries es)), (39, iV es.length), (0, cV (marks l)), (6, .p false [.mp 24]), (9, iV s)], [], [], [(24, mapF c)]⟩ : St)
       subst p2
       have hcl := so_len hso p1
       have hsc := over_sok hso p1
       refine sq (rg (xb ttOk rfl rfl (nl (et (sq (ev_cond rfl (fun h4 => ?_) (fun h4 => ?_)))))))
       · try have d4 := of_decide_eq_true h4
         refine ev_skip (et (sq (ev_blk (sq (rg (xo (q_ix_map ttOk rfl rfl rfl rfl (by omega)) rfl (xl ttOk rfl rfl (evl_e (e_alloc ttOk rfl rfl rfl rfl) (xst ttOk rfl rfl (nl (et (sq (sq (rg (xl ttOk rfl rfl (evl_call (nm := 45) (cf rfl) (c_EntryOk' es[k]) (rs_of rfl) rfl rfl rfl (xo (q_not rfl) rfl (xm rfl rfl (evl_partn rfl rfl (fun h5 => ?_) (fun h5 => ?_))))))))))))))))))))
         · try have d5 := of_decide_eq_false h5
           refine gn (nt h5) rfl rfl rfl (gn (nt h5) rfl rfl rfl (gn (nt h5) rfl rfl rfl (gn (nt h5) rfl rfl rfl (gn (nt h5) rfl rfl rfl (gn (nt h5) rfl rfl rfl (gn (nt h5) rfl rfl rfl (gn (nt h5) rfl rfl rfl (xo (q_pick_t rfl (nt h5) rfl) rfl (xm rfl rfl (gn rfl rfl rfl rfl (gn rfl rfl rfl rfl (gn rfl rfl rfl rfl (gn rfl rfl rfl rfl (xo (q_pick_t rfl rfl rfl) rfl (nl (et (ev_cond_kt rfl rfl (sq (rg (xm rfl rfl (evl_call (nm := 64) (cf rfl) (c_copySeen l (by omega)) (rs_of rfl) rfl rfl rfl (xs rfl rfl (xs rfl rfl (nl (et (ev_ret (evr_then (evr_blk (evr_then (evr_then (evr_blk (evr_then (ret_pureN ttOk rfl rfl ?_)))))))))))))))))))))))))))))))))
           first
           | (rw [so1 (by assumption)]; simp [RpLe, L2, RcLe]; done)
           | (rw [so2 (by assumption) (by omega)]; simp [RpLe, L2, RcLe]; done)
           | (rw [so3 (by assumption) (over_no (by omega) p1 (fresh_no1 (by assumption)))]; simp [RpLe, L2, RcLe]; done)
           | (rw [so3 (by assumption) (over_no (by omega) p1 (fresh_no4 (by assumption)))]; simp [RpLe, L2, RcLe]; done)
           | (rw [so3 (by assumption) (over_no (by omega) p1 (fresh_no3 (by assumption)))]; simp [RpLe, L2, RcLe]; done)
           | (obtain rfl : j = 4 := by omega
              rw [so4 (by assumption) (by omega) (over_end (by omega) p1), outF_all hsc]; simp [RpLe, L2, RcLe]; done)
         · try have d5 := of_decide_eq_true h5
           refine go (nf h5) rfl rfl (q_fieldAddr ttOk rfl) rfl (go (nf h5) rfl rfl (q_load ttOk rfl) rfl (gm (nf h5) rfl rfl rfl rfl (go (nf h5) rfl rfl (q_fieldAddr ttOk rfl) rfl (go (nf h5) rfl rfl (q_load ttOk rfl) rfl (go (nf h5) rfl rfl (q_lookup_s (us := [.int .i64 (findM c es[k].client).client, .int .i64 (findM c es[k].client).seq, .int .i64 (findM c es[k].client).index]) (kt := 2) (et := 148) (by kernel_rfl) ttOk rfl rfl rfl rfl rfl rfl (look_at c _) (mark_one _)) rfl (go (nf h5) rfl rfl (q_field ttOk rfl) rfl (go (nf h5) rfl rfl (q_bin ttOk rfl) rfl (xo (q_pick_f rfl (nf h5) rfl) rfl (xm rfl rfl (evl_part rfl rfl (fun h6 => ?_) (fun h6 => ?_)))))))))))
           · try have d6 := of_decide_eq_true h6
             refine gn h6 rfl rfl rfl (gn h6 rfl rfl rfl (gn h6 rfl rfl rfl (gn h6 rfl rfl rfl (xo (q_pick_t rfl h6 rfl) rfl (nl (et (ev_cond_kt rfl rfl (sq (rg (xm rfl rfl (evl_call (nm := 64) (cf rfl) (c_copySeen l (by omega)) (rs_of rfl) rfl rfl rfl (xs rfl rfl (xs rfl rfl (nl (et (ev_ret (evr_then (evr_blk (evr_then (evr_then (evr_blk (evr_then (ret_pureN ttOk rfl rfl ?_)))))))))))))))))))))))
             first
             | (rw [so1 (by assumption)]; simp [RpLe, L2, RcLe]; done)
             | (rw [so2 (by assumption) (by omega)]; simp [RpLe, L2, RcLe]; done)
             | (rw [so3 (by assumption) (over_no (by omega) p1 (fresh_no1 (by assumption)))]; simp [RpLe, L2, RcLe]; done)
             | (rw [so3 (by assumption) (over_no (by omega) p1 (fresh_no4 (by assumption)))]; simp [RpLe, L2, RcLe]; done)
             | (rw [so3 (by assumption) (over_no (by omega) p1 (fresh_no3 (by assumption)))]; simp [RpLe, L2, RcLe]; done)
             | (obtain rfl : j = 4 := by omega
                rw [so4 (by assumption) (by omega) (over_end (by omega) p1), outF_all hsc]; simp [RpLe, L2, RcLe]; done)
           · try have d6 := of_decide_eq_false h6
             refine go h6 rfl rfl (q_fieldAddr ttOk rfl) rfl (go h6 rfl rfl (q_load ttOk rfl) rfl (gm h6 rfl rfl rfl rfl (go h6 rfl rfl (q_bin ttOk rfl) rfl (xo (q_pick_f rfl h6 rfl) rfl (nl (et (ev_cond rfl (fun h7 => ?_) (fun h7 => ?_))))))))
             · try have d7 := of_decide_eq_true h7
               refine sq (rg (xm rfl rfl (evl_call (nm := 64) (cf rfl) (c_copySeen l (by omega)) (rs_of rfl) rfl rfl rfl (xs rfl rfl (xs rfl rfl (nl (et (ev_ret (evr_then (evr_blk (evr_then (evr_then (evr_blk (evr_then (ret_pureN ttOk rfl rfl ?_)))))))))))))))
               first
               | (rw [so1 (by assumption)]; simp [RpLe, L2, RcLe]; done)
               | (rw [so2 (by assumption) (by omega)]; simp [RpLe, L2, RcLe]; done)
               | (rw [so3 (by assumption) (over_no (by omega) p1 (fresh_no1 (by assumption)))]; simp [RpLe, L2, RcLe]; done)
               | (rw [so3 (by assumption) (over_no (by omega) p1 (fresh_no4 (by assumption)))]; simp [RpLe, L2, RcLe]; done)
               | (rw [so3 (by assumption) (over_no (by omega) p1 (fresh_no3 (by assumption)))]; simp [RpLe, L2, RcLe]; done)
               | (obtain rfl : j = 4 := by omega
                  rw [so4 (by assumption) (by omega) (over_end (by omega) p1), outF_all hsc]; simp [RpLe, L2, RcLe]; done)
             · try have d7 := of_decide_eq_false h7
               refine ev_skip (et (sq ?_))
               have hfr := fresh_yes2 (l := c) (e := es[k]) (by assumption) (by assumption) (by assumption)
               refine rg (xm rfl rfl (xf ttOk rfl rfl (xl ttOk rfl rfl (evl_e (e_mapdel (kt2 := 2) (f' := fun q => if q = es[k].client then none else mapF c q) (kt := 2) (et := 148) (by kernel_rfl) rfl rfl rfl rfl (fun q => rfl) rfl) (nl (et (sq (rg (xm rfl rfl (xf ttOk rfl rfl (xl ttOk rfl rfl (xf ttOk rfl rfl (xl ttOk rfl rfl (xf ttOk rfl rfl (xl ttOk rfl rfl (xf ttOk rfl rfl (xl ttOk rfl rfl (xo (q_build ttOk rfl) rfl (evl_e (e_mapset (f' := mapF (insF c (eMark es[k]))) (kt := 2) (et := 148) (by kernel_rfl) rfl rfl rfl rfl rfl (mapB_next c es[k]) rfl) (nl (et (rg (xf ttOk rfl rfl (xl ttOk rfl rfl (xs rfl rfl (nl (eb (et (rg (xa rfl rfl rfl (by omega) rfl (xm rfl rfl (nl (eve_round (k + 1, insF c (eMark es[k]), es[k].index) [] ?hp ⟨by (repeat first | exact trivial | refine ⟨rfl, ?_⟩), by (repeat first | exact trivial | refine ⟨rfl, ?_⟩), by (repeat first | exact trivial | refine ⟨⟨_, rfl, rfl⟩, ?_⟩), by (repeat first | exact trivial | refine ⟨⟨_, rfl, rfl⟩, ?_⟩), rfl⟩)))))))))))))))))))))))))))))))))
               case hp => exact ⟨⟨by omega, over_yes (by omega) p1 hfr, (fresh_ok hsc hfr).2.symm⟩, by omega⟩
       · try have d4 := of_decide_eq_false h4
         refine ev_exit (evx_then (evx_then (evx_hit (et (sq ?_)))))
         obtain rfl : k = es.length := by omega
         refine rg (evl_e (e_lit ttOk rfl rfl rfl) (xs rfl rfl (nl (et (sq (sq (rg (xs rfl rfl (nl (et (ev_blk (ev_loop (fun i : Nat × Int => (⟨[(13, iV i.2), (6, .p false [.mp 24]), (12, .p false [.rt 101])], [], [(101, 148, 3, ((outF c i.1).map markC))], [(24, mapF c)]⟩ : St)) (fun i => i.1 ≤ 4 ∧ i.2 = (i.1 : Int) + 2) (fun i => 4 - i.1) (0, 2) [(101, 81)] (⟨by simp, rfl⟩) ⟨by (repeat first | exact trivial | refine ⟨rfl, ?_⟩), by (repeat first | exact trivial | refine ⟨rfl, ?_⟩), ⟨⟨_, rfl, by rw [outF_zero hsc]; rfl⟩, trivial⟩, by (repeat first | exact trivial | refine ⟨⟨_, rfl, rfl⟩, ?_⟩), rfl⟩ ?_))))))))))))
         intro i hp
         obtain ⟨j, z⟩ := i
         have hp : j ≤ 4 ∧ z = (j : Int) + 2 := hp
         obtain ⟨q0, q1⟩ := hp
         show Ev _ _ _ _ (⟨[(13, iV z), (6, .p false [.mp 24]), (12, .p false [.rt 101])], [], [(101, 148, 3, ((outF c j).map markC))], [(24, mapF c)]⟩ : St)
         refine sq (sq (rg (xm rfl rfl (xb ttOk rfl rfl (nl (et (ev_cond rfl (fun h8 => ?_) (fun h8 => ?_))))))))
         · try have d8 := of_decide_eq_true h8
           refine ev_skip (et (sq (ev_blk (sq (rg (xm rfl rfl (xm rfl rfl (xo (q_lookup_ok (us := [.int .i64 (findM c z).client, .int .i64 (findM c z).seq, .int .i64 (findM c z).index]) (kt := 2) (et := 148) (by kernel_rfl) ttOk rfl rfl rfl rfl rfl rfl (look_at c _) (look_some c _) (mark_one _)) rfl (xm rfl rfl (xo (q_ext rfl) rfl (xo (q_ext rfl) rfl (evl_e (e_alloc ttOk rfl rfl rfl rfl) (xst ttOk rfl rfl (xs rfl rfl (nl (et (sq (rg (xm rfl rfl (nl (et (ev_cond rfl (fun h9 => ?_) (fun h9 => ?_)))))))))))))))))))))))
           · try have d9 := of_decide_eq_true h9
             have hol : (outF c j).length ≤ c.length := List.length_filter_le _ _
             refine rg (xm rfl rfl (xl ttOk rfl rfl (evl_e (e_lit ttOk rfl rfl rfl) (evl_e (e_app ttOk rfl rfl rfl rfl rfl rfl rfl (by simp; omega) rfl rfl) (xs rfl rfl (nl (eb (et (rg (xm rfl rfl (xa rfl rfl rfl (by omega) rfl (xs rfl rfl (nl (eve_round (j + 1, _) [(101, 96)] ?hp ⟨by (repeat first | exact trivial | refine ⟨rfl, ?_⟩), by (repeat first | exact trivial | refine ⟨rfl, ?_⟩), ⟨⟨_, rfl, by exact out_yes hsc q1 (by assumption)⟩, trivial⟩, by (repeat first | exact trivial | refine ⟨⟨_, rfl, rfl⟩, ?_⟩), rfl⟩))))))))))))))
             case hp => exact ⟨⟨by omega, by omega⟩, by omega⟩
           · try have d9 := of_decide_eq_false h9
             refine ev_skip (eb (et (rg (xm rfl rfl (xa rfl rfl rfl (by omega) rfl (xs rfl rfl (nl (eve_round (j + 1, _) [(101, 101)] ?hp ⟨by (repeat first | exact trivial | refine ⟨rfl, ?_⟩), by (repeat first | exact trivial | refine ⟨rfl, ?_⟩), ⟨⟨_, rfl, by exact out_no hsc q1 (by assumption)⟩, trivial⟩, by (repeat first | exact trivial | refine ⟨⟨_, rfl, rfl⟩, ?_⟩), rfl⟩))))))))
             case hp => exact ⟨⟨by omega, by omega⟩, by omega⟩
         · try have d8 := of_decide_eq_false h8
           refine ev_exit (evx_then (evx_then (evx_hit (et (sq (rg (xm rfl rfl (xs rfl rfl (xs rfl rfl (nl (et (ev_ret (ret_pureN ttOk rfl rfl ?_)))))))))))))
           first
           | (rw [so1 (by assumption)]; simp [RpLe, L2, RcLe]; done)
           | (rw [so2 (by assumption) (by omega)]; simp [RpLe, L2, RcLe]; done)
           | (rw [so3 (by assumption) (over_no (by omega) p1 (fresh_no1 (by assumption)))]; simp [RpLe, L2, RcLe]; done)
           | (rw [so3 (by assumption) (over_no (by omega) p1 (fresh_no4 (by assumption)))]; simp [RpLe, L2, RcLe]; done)
           | (rw [so3 (by assumption) (over_no (by omega) p1 (fresh_no3 (by assumption)))]; simp [RpLe, L2, RcLe]; done)
           | (obtain rfl : j = 4 := by omega
              rw [so4 (by assumption) (by omega) (over_end (by omega) p1), outF_all hsc]; simp [RpLe, L2, RcLe]; done)

end Go.Proofs.YtphaggopgdbojaaGreat
namespace Go.Proofs.YtphaggopgdbojaaGreat
open Go.ChangeShapes Go.WideShapes Go.ChangeAt Go.RowKit
set_option linter.unusedVariables false
set_option linter.unusedSimpArgs false
set_option maxHeartbeats 1000000
set_option maxRecDepth 100000
attribute [local irreducible] EvL Ev EvE Quiet Eff Pure RDk RDb RDo
def noEntry : Entry := ⟨0, 0, 0, 0, 0, 0, 0, 0, 0⟩
def atB (b : Book) (x : Int) : Entry := b.entries.getD (x - b.base - 1).toNat noEntry
def timeAtF (b : Book) (x : Int) : Int := if x = b.base then b.time else (atB b x).time
theorem atB_eq {b : Book} {x : Int} {m : Nat} (h : x - b.base - 1 = (m : Int)) (hm : m < b.entries.length) : atB b x = b.entries[m] := by
  unfold atB
  rw [h, Int.toNat_natCast, List.getD_eq_getElem?_getD, List.getElem?_eq_getElem hm]
  rfl
theorem at_get {b : Book} {x : Int} (h1 : b.base < x) (h2 : x ≤ lastB b) : ∃ m : Nat, x - b.base - 1 = (m : Int) ∧ m < b.entries.length := by
  unfold lastB at h2
  exact ⟨(x - b.base - 1).toNat, by omega, by omega⟩
theorem c_l8TimeAt (b : Book) (x : Int) (hb : bookOk b = true) (hx : b.base ≤ x ∧ x ≤ lastB b) : Pure Tryz.prog 115 [many (bookC b), one (iC x)] (iR (timeAtF b x)) := by
 refine pure_intro (N := 21) Tryz.func115 rfl rfl rfl rfl (fun H w => ?_)
 have hbd := book_bd hb
 have hx2 : x ≤ 4000 := by have := hx.2; unfold lastB at this; omega
 refine sq (rg (evl_e (e_box rfl rfl rfl rfl) (xs rfl rfl (nl (et (sq (sq (rg (xm rfl rfl (xf ttOk rfl rfl (xl ttOk rfl rfl (xb ttOk rfl rfl (nl (et (ev_cond rfl (fun h1 => ?_) (fun h1 => ?_))))))))))))))))
 · try have d1 := of_decide_eq_true h1
   refine sq (rg (xf ttOk rfl rfl (xl ttOk rfl rfl (xs rfl rfl (nl (et (ev_ret (evr_then (ret_pure' ttOk rfl rfl ?_)))))))))
   rw [show timeAtF b x = b.time by simp only [timeAtF]; rw [if_pos (by assumption)]]
 · try have d1 := of_decide_eq_false h1
   refine ev_skip (et (sq ?_))
   obtain ⟨m, hm1, hm2⟩ := at_get (b := b) (x := x) (by omega) hx.2
   refine rg (xf ttOk rfl rfl (xl ttOk rfl rfl (xm rfl rfl (xf ttOk rfl rfl (xl ttOk rfl rfl (xa rfl rfl rfl (by omega) rfl (xa rfl rfl rfl (by omega) rfl (xo (q_ix_map (m := m) ttOk rfl rfl rfl (by omega) (by omega)) rfl (xf ttOk rfl rfl (xl ttOk rfl rfl (xs rfl rfl (nl (et (ev_ret (ret_pure' ttOk rfl rfl ?_)))))))))))))))
   rw [show timeAtF b x = b.entries[m].time by simp only [timeAtF]; rw [if_neg (by assumption), atB_eq hm1 hm2]]
end Go.Proofs.YtphaggopgdbojaaGreat
namespace Go.Proofs.YtphaggopgdbojaaGreat
open Go.ChangeShapes Go.WideShapes Go.ChangeAt Go.RowKit
set_option linter.unusedVariables false
set_option linter.unusedSimpArgs false
set_option maxHeartbeats 1000000
set_option maxRecDepth 100000
attribute [local irreducible] EvL Ev EvE Quiet Eff Pure RDk RDb RDo
theorem head_bd {h : Head} (hh : headOk h = true) : 0 ≤ h.base ∧ h.base ≤ 2000 ∧ 0 ≤ h.num ∧ h.num ≤ h.base ∧ seenOk h.seen = true := by
  simp only [headOk, inB, Bool.and_eq_true, decide_eq_true_eq] at hh
  exact ⟨hh.1.1, hh.1.2, hh.2.1.1, hh.2.1.2, hh.2.2.2.2.1⟩
end Go.Proofs.YtphaggopgdbojaaGreat
namespace Go.Proofs.YtphaggopgdbojaaGreat
open Go.ChangeShapes Go.WideShapes Go.ChangeAt Go.RowKit
set_option linter.unusedVariables false
set_option linter.unusedSimpArgs false
set_option maxHeartbeats 1000000
set_option maxRecDepth 100000
attribute [local irreducible] EvL Ev EvE Quiet Eff Pure RDk RDb RDo
theorem ents_ok {l : List Entry} (h : entriesOk l = true) : ∀ e ∈ l, entryOk e = true := fun e he => by
  obtain ⟨k, hk, rfl⟩ := List.mem_iff_getElem.1 he
  have := (entriesOk_iff.1 h).2 k hk
  rw [entStep_at hk] at this
  simp only [Bool.and_eq_true] at this
  exact this.1
theorem book_first {b : Book} (hb : bookOk b = true) (h : 0 < b.entries.length) : b.entries[0].index = b.base + 1 := by
  simp only [bookOk, Bool.and_eq_true] at hb
  have h6 := hb.2.2.2.2.2
  revert h6 h
  cases b.entries with
  | nil => intro h; simp at h
  | cons e es =>
    intro h h6
    simp only [Bool.and_eq_true, decide_eq_true_eq] at h6
    exact h6.1
theorem ent_ix {b : Book} (hb : bookOk b = true) : ∀ j (hj : j < b.entries.length), b.entries[j].index = b.base + 1 + j
  | 0, hj => by rw [book_first hb hj]; simp
  | j + 1, hj => by
    have h1 := (entriesOk_iff.1 (book_bd hb).2.2.2.2).2 (j + 1) hj
    rw [entStep_at hj, entOver_at hj (by omega)] at h1
    simp only [Bool.and_eq_true, decide_eq_true_eq] at h1
    have h2 := ent_ix hb j (by omega)
    have h3 : b.entries[j + 1].index = b.entries[j].index + 1 := h1.2.1
    rw [h3, h2]
    omega
end Go.Proofs.YtphaggopgdbojaaGreat
namespace Go.Proofs.YtphaggopgdbojaaGreat
open Go.ChangeShapes Go.WideShapes Go.ChangeAt Go.RowKit
set_option linter.unusedVariables false
set_option linter.unusedSimpArgs false
set_option maxHeartbeats 1000000
set_option maxRecDepth 100000
attribute [local irreducible] EvL Ev EvE Quiet Eff Pure RDk RDb RDo
theorem flat_entries (l : List Entry) : ∀ cs ∈ l.map entryC, ∀ c ∈ cs, ∃ x, c = .v x := by
  intro cs h c hc
  obtain ⟨x, _, rfl⟩ := List.mem_map.1 h
  simp only [List.mem_cons, List.not_mem_nil, or_false] at hc
  rcases hc with rfl | rfl | rfl | rfl | rfl | rfl | rfl | rfl | rfl <;> exact ⟨_, rfl⟩
end Go.Proofs.YtphaggopgdbojaaGreat
namespace Go.Proofs.YtphaggopgdbojaaGreat
open Go.ChangeShapes Go.WideShapes Go.ChangeAt Go.RowKit
set_option linter.unusedVariables false
set_option linter.unusedSimpArgs false
set_option maxHeartbeats 1000000
set_option maxRecDepth 100000
attribute [local irreducible] EvL Ev EvE Quiet Eff Pure RDk RDb RDo
/-- every second number from i on, m of them -/
def pk (F : List Int) (i : Nat) : Nat → List Int
  | 0 => []
  | k + 1 => pk F i k ++ [F.getD (i + 2 * k) 0]
def zeroL : LogN := ⟨zeroT, noHead, noHead, false, ⟨0, 0, []⟩, [], 0, []⟩
end Go.Proofs.YtphaggopgdbojaaGreat
namespace Go.Proofs.YtphaggopgdbojaaGreat
open Go.ChangeShapes Go.WideShapes Go.ChangeAt Go.RowKit
set_option linter.unusedVariables false
set_option linter.unusedSimpArgs false
set_option maxHeartbeats 1000000
set_option maxRecDepth 100000
attribute [local irreducible] EvL Ev EvE Quiet Eff Pure RDk RDb RDo
theorem getD_set {α : Type} {l : List α} {i j : Nat} {x d : α} (hi : i < l.length) : (l.set i x).getD j d = if i = j then x else l.getD j d := by
  simp only [List.getD_eq_getElem?_getD, List.getElem?_set]
  split
  · rename_i e
    subst e
    simp [hi]
  · rfl
theorem rowOk_of {l : List Int} (h1 : l.length ≤ 48) (h2 : NumsOk l) : rowOk l = true := by
  simp only [rowOk, Bool.and_eq_true, decide_eq_true_eq, List.all_eq_true]
  exact ⟨h1, h2⟩
theorem rowOk_torn {a b : List Int} (ha : rowOk a = true) (hb : rowOk b = true) : rowOk (tornF a b) = true := by
  obtain ⟨h1, h2⟩ := rowOk_nums ha
  obtain ⟨h3, h4⟩ := rowOk_nums hb
  refine rowOk_of ?_ fun x hx => ?_
  · simp only [tornF, List.length_append, List.length_take, List.length_drop]; omega
  · rcases List.mem_append.1 hx with hx | hx
    · exact h2 x (List.mem_of_mem_take hx)
    · exact h4 x (List.mem_of_mem_drop hx)
theorem rowOk_nil : rowOk [] = true := by decide
theorem wait_ok {d : Disk} (h : diskOk d = true) {k : Nat} (hk : k < d.wait.length) : hasAt d d.wait[k].1 = true ∧ rowOk d.wait[k].2 = true := by
  have := (diskOk_sizes h).2.2.2.2 _ (List.getElem_mem hk)
  simp only [writeOk, Bool.and_eq_true] at this
  exact this
theorem fallUp_ok {d : Disk} (h : diskOk d = true) (F : List Int) (all : Bool) : ∀ k, k ≤ d.wait.length → ∀ r ∈ fallUp d F all k, rowOk r = true
  | 0, _ => fun r hr => (diskOk_sizes h).2.2.2.1 r hr
  | k + 1, hk => fun r hr => by
    have ih := fallUp_ok h F all k (by omega)
    have hw := wait_ok h (k := k) (by omega)
    rw [show fallUp d F all (k + 1) = fallStep (fateAt F k) all (fallUp d F all k) d.wait[k] by simp only [fallUp]; rw [getD_lenW (show k < d.wait.length by omega)]] at hr
    have key : ∀ z : List Int, rowOk z = true → r ∈ (fallUp d F all k).set d.wait[k].1.toNat z → rowOk r = true := fun z hz hm => by
      rcases List.mem_or_eq_of_mem_set hm with h9 | h9
      · exact ih r h9
      · rw [h9]; exact hz
    simp only [fallStep] at hr
    split at hr
    · exact key _ hw.2 hr
    · split at hr
      · refine key _ (rowOk_torn hw.2 ?_) hr
        rw [List.getD_eq_getElem?_getD]
        cases h9 : (fallUp d F all k)[d.wait[k].1.toNat]? with
        | none => exact rowOk_nil
        | some r9 => exact ih r9 (List.mem_of_getElem? h9)
      · exact ih r hr
theorem fall_ok {d : Disk} (h : diskOk d = true) (F : List Int) (all : Bool) : diskOk (fallF d F all) = true := by
  rw [fall_yes h]
  have h1 := diskOk_sizes h
  have h2 := fallUp_len d F all d.wait.length
  simp only [diskOk, Bool.and_eq_true, decide_eq_true_eq, List.all_eq_true, List.length_nil]
  exact ⟨by omega, by omega, by omega, fun r hr => fallUp_ok h F all _ (Nat.le_refl _) r hr, by simp⟩
theorem fall_len {d : Disk} (h : diskOk d = true) (F : List Int) (all : Bool) : (fallF d F all).kept.length = d.kept.length := by
  rw [fall_yes h]; exact fallUp_len d F all _
theorem lastW_snoc {l : List (Int × List Int)} {y : Int × List Int} {x : Int} : lastW (l ++ [y]) x = if y.1 = x then some y.2 else lastW l x := by simp [lastW, List.foldl_append]
theorem sync_at {d : Disk} (h : diskOk d = true) {x : Int} (hx : 0 ≤ x) : ∀ k, k ≤ d.wait.length → (fallUp d [] true k).getD x.toNat [] = (lastW (d.wait.take k) x).getD (d.kept.getD x.toNat [])
  | 0, _ => by simp [fallUp, lastW]
  | k + 1, hk => by
    have ih := sync_at h hx k (by omega)
    have hw := wait_at h (k := k) (by omega)
    have hl := fallUp_len d [] true k
    rw [show fallUp d [] true (k + 1) = (fallUp d [] true k).set d.wait[k].1.toNat d.wait[k].2 by simp only [fallUp]; rw [getD_lenW (show k < d.wait.length by omega)]; simp [fallStep], getD_set (by omega), List.take_succ_eq_append_getElem (by omega), lastW_snoc]
    by_cases e : d.wait[k].1 = x
    · rw [if_pos e, if_pos (by rw [e])]; rfl
    · rw [if_neg e, if_neg (by omega), ih]
theorem sync_read {d : Disk} {x : Int} : readF (fallF d [] true) x = readF d x := by
  cases h : diskOk d
  · rw [fall_no h, read_no1 h, read_no1 (by decide)]
  · cases hh : hasAt d x
    · rw [read_no2 hh, read_no2]
      have := fall_len h [] true
      unfold hasAt at hh ⊢
      rw [this]
      exact hh
    · have hx := hasAt_iff.1 hh
      have h1 : hasAt (fallF d [] true) x = true := by
        rw [hasAt_iff, fall_len h]; exact hx
      have h2 := sync_at h hx.1 d.wait.length (Nat.le_refl _)
      rw [List.take_length] at h2
      unfold readF
      rw [fall_ok h, h1, h, hh, fall_yes h]
      simp only [Bool.and_self, if_true]
      rw [← h2]
      rfl
theorem twoOk_iff {t : Two} : twoOk t = true ↔ diskOk t.a = true ∧ diskOk t.b = true ∧ t.a.kept.length = t.b.kept.length := by simp [twoOk]
theorem bsync_ok {t : Two} (h : twoOk t = true) : twoOk (bothSyncF t) = true := by
  obtain ⟨h1, h2, h3⟩ := twoOk_iff.1 h
  rw [bsync_yes h]
  exact twoOk_iff.2 ⟨fall_ok h1 _ _, fall_ok h2 _ _, by rw [fall_len h1, fall_len h2, h3]⟩
theorem right_sync {t : Two} {x : Int} : rightF (bothSyncF t) x = rightF t x := by
  cases h : twoOk t
  · rw [bsync_no h, right_no1 h, right_no1 (by decide)]
  · have h0 := bsync_ok h
    unfold rightF
    rw [h0, h, bsync_yes h]
    simp only [sync_read, Bool.true_and]
    have : hasAt (fallF t.a [] true) x = hasAt t.a x := by unfold hasAt; rw [fall_len (twoOk_both h).1]
    rw [this]
theorem keptOk_iff {t : Two} : keptOk t = true ↔ twoOk t = true ∧ t.a.kept.length = 22 := by simp [keptOk]
theorem kept_sync {t : Two} : keptOk (bothSyncF t) = keptOk t := by
  cases h : twoOk t
  · rw [bsync_no h]
    unfold keptOk
    rw [h]
    rfl
  · unfold keptOk
    rw [h, bsync_ok h, bsync_yes h]
    simp only [fall_len (twoOk_both h).1]
theorem headUp_sync {t : Two} : ∀ k, headUp (bothSyncF t) k = headUp t k
  | 0 => rfl
  | k + 1 => by simp only [headUp, right_sync, headUp_sync k]
theorem headIn_sync {t : Two} : headIn (bothSyncF t) = headIn t := by
  unfold headIn
  rw [kept_sync, headUp_sync]
theorem zeroL_sm : smL zeroL := ⟨smT_zero, by decide, by decide, by decide, by decide, by decide⟩
theorem c_l8Entries (l : List Entry) (h : l.length ≤ 1048576) : Pure Tryz.prog 175 [one (entries l)] [one' (entriesR l)] := by
 refine pure_intro (N := 6) Tryz.func175 rfl rfl rfl rfl (fun H w => ?_)
 refine sq (rg (xs rfl rfl (nl (et (sq (rg (evl_e (e_lit ttOk rfl rfl rfl) (xm rfl rfl (evl_e (e_app_c ttOk rfl rfl rfl rfl rfl (flat_entries _) (by simp; omega) rfl rfl) (xs rfl rfl (nl (et (ev_ret (ret_pure' ttOk rfl rfl ?_))))))))))))))
 rfl
theorem c_l8Copy (b : Book) (h : b.entries.length ≤ 1048576) : Pure Tryz.prog 114 [many (bookC b)] [many' (bookR b)] := by
 refine pure_intro (N := 11) Tryz.func114 rfl rfl rfl rfl (fun H w => ?_)
 refine sq (rg (evl_e (e_box rfl rfl rfl rfl) (evl_e (e_alloc ttOk rfl rfl rfl rfl) (nl (et (sq (ev_drawq [8] mo (rdk_take 0 rfl (by kernel_rfl) trivial (q_fieldAddr ttOk rfl) rfl (rdk_take 1 rfl (by kernel_rfl) trivial (q_load ttOk rfl) rfl (rdk_take 2 rfl (by kernel_rfl) trivial (q_fieldAddr ttOk rfl) rfl (rdk_take 3 rfl (by kernel_rfl) trivial (q_load ttOk rfl) rfl (rdk_take 4 rfl (by kernel_rfl) trivial (q_fieldAddr ttOk rfl) rfl (rdk_take 5 rfl (by kernel_rfl) trivial (q_load ttOk rfl) rfl (rdk_one 6 (by kernel_rfl) (rdo_call (nm := 9) rfl trivial (cf rfl) (c_l8Entries b.entries h) (rs_of rfl) rfl rfl rfl (rdk_take 7 rfl (by kernel_rfl) trivial (q_build ttOk rfl) rfl (rdk_one 8 (by kernel_rfl) (rdo_brk rfl rfl trivial (e_store ttOk rfl) (rdb_endq (by kernel_rfl) (et (ev_ret (ret_pure' ttOk rfl rfl ?_))))))))))))))))))))))
 rfl
end Go.Proofs.YtphaggopgdbojaaGreat
namespace Go.Proofs.YtphaggopgdbojaaGreat
open Go.ChangeShapes Go.WideShapes Go.ChangeAt Go.RowKit
set_option linter.unusedVariables false
set_option linter.unusedSimpArgs false
set_option maxHeartbeats 1000000
set_option maxRecDepth 100000
attribute [local irreducible] EvL Ev EvE Quiet Eff Pure RDk RDb RDo
theorem wrote_ok {d : Disk} {x : Int} {row : List Int} (h : diskOk d = true) : diskOk (wroteF d x row).1 = true := by
  cases h2 : wroteOk d x row
  · rw [wrote_fail h h2]; exact h
  · rw [wrote_yes h h2]
    have h1 := diskOk_sizes h
    simp only [wroteOk, Bool.and_eq_true, decide_eq_true_eq] at h2
    simp only [diskOk, Bool.and_eq_true, decide_eq_true_eq, List.all_eq_true, List.length_append, List.length_singleton]
    refine ⟨by omega, by omega, by omega, h1.2.2.2.1, fun y hy => ?_⟩
    rcases List.mem_append.1 hy with hy | hy
    · have := h1.2.2.2.2 y hy
      simpa [writeOk, hasAt] using this
    · rw [List.mem_singleton.1 hy]
      simp only [writeOk, Bool.and_eq_true]
      exact ⟨h2.1, h2.2.1⟩
theorem wrote_len {d : Disk} {x : Int} {row : List Int} (h : diskOk d = true) : (wroteF d x row).1.kept = d.kept := by
  cases h2 : wroteOk d x row
  · rw [wrote_fail h h2]
  · rw [wrote_yes h h2]
theorem both_ok {t : Two} {x : Int} {row : List Int} (h : twoOk t = true) : twoOk (bothWroteF t x row).1 = true := by
  obtain ⟨h1, h2, h3⟩ := twoOk_iff.1 h
  unfold bothWroteF
  rw [h]
  simp only [if_true]
  split
  · exact twoOk_iff.2 ⟨wrote_ok h1, wrote_ok h2, by rw [wrote_len h1, wrote_len h2, h3]⟩
  · exact h
end Go.Proofs.YtphaggopgdbojaaGreat
