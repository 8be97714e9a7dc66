/- Walks of functions of the program, printed by a program of the prover. -/
import Derived.Test.YtpbhcdgdabfhfaaGreatLoF34
namespace Go.Proofs.YtpbhcdgdabfhfaaGreat
open Go.ChangeShapes Go.WideShapes Go.ChangeAt Go.RowKit
set_option linter.unusedVariables false
set_option linter.unusedSimpArgs false
set_option maxHeartbeats 1000000
set_option maxRecDepth 100000
attribute [local irreducible] EvL Ev EvE Quiet Eff Pure RDk RDb RDo
theorem so_len {l c : List Mark} {es : List Entry} (h : SOk l) (hc : overL l es = some c) : c.length ≤ 4 := seen_len (of_sok (over_sok h hc))
theorem c_SeenOver (l : List Mark) (es : List Entry) : Pure Tryz.prog 74 [one (marks l), one (entries es)] [one' (marksR (seenOverF l es).1), one' (RC.v (.bool (seenOverF l es).2))] := by
 refine pure_intro (N := 42) Tryz.func74 rfl rfl rfl rfl (fun H w => ?_)
 refine ev_lenm (t := 0) rfl (fun hL => ?_)
 refine ev_lenm (t := 1) rfl (fun hE => ?_)
 refine sq (rg (xs rfl rfl (xs rfl rfl (nl (et (sq (sq (rg (xm rfl rfl (evl_call (nm := 11) (cf rfl) (c_SeenOk l) (rs_of rfl) rfl rfl rfl (xo (q_not rfl) rfl (nl (et (ev_cond_n rfl (fun h1 => ?_) (fun h1 => ?_)))))))))))))))
 · try have d1 := of_decide_eq_false h1
   refine sq (rg (evl_e (e_lit ttOk rfl rfl rfl) (xs rfl rfl (xs rfl rfl (nl (et (ev_ret (evr_then (ret_pureN ttOk rfl rfl ?_)))))))))
   first
   | (rw [so1 (by assumption)]; simp [RpLe, L2, RcLe]; done)
   | (rw [so2 (by assumption) (by omega)]; simp [RpLe, L2, RcLe]; done)
   | (rw [so3 (by assumption) (over_stop hso (by omega) p1 (by assumption))]; simp [RpLe, L2, RcLe]; done)
   | (rw [so4 (by assumption) (by omega) (over_end (by omega) p1)]; simp [RpLe, L2, RcLe]; done)
 · try have d1 := of_decide_eq_true h1
   have hl4 := seen_len h1
   have hso := sok_of h1
   refine ev_skip (et (sq (sq (rg (xm rfl rfl (xo (q_len_map ttOk rfl rfl) rfl (xb ttOk rfl rfl (nl (et (ev_cond rfl (fun h2 => ?_) (fun h2 => ?_)))))))))))
   · try have d2 := of_decide_eq_true h2
     refine sq (rg (xm rfl rfl (evl_call (nm := 18) (cf rfl) (c_l9Copy l (by omega)) (rs_of rfl) rfl rfl rfl (xs rfl rfl (xs rfl rfl (nl (et (ev_ret (evr_then (ret_pureN ttOk rfl rfl ?_))))))))))
     first
     | (rw [so1 (by assumption)]; simp [RpLe, L2, RcLe]; done)
     | (rw [so2 (by assumption) (by omega)]; simp [RpLe, L2, RcLe]; done)
     | (rw [so3 (by assumption) (over_stop hso (by omega) p1 (by assumption))]; simp [RpLe, L2, RcLe]; done)
     | (rw [so4 (by assumption) (by omega) (over_end (by omega) p1)]; simp [RpLe, L2, RcLe]; done)
   · try have d2 := of_decide_eq_false h2
     refine ev_skip (et (sq (rg (xm rfl rfl (evl_call (nm := 20) (cf rfl) (c_l9Copy l (by omega)) (rs_of rfl) rfl rfl rfl (xs rfl rfl (nl (et (sq (sq (rg (xs rfl rfl (nl (et (ev_blk (ev_loop (fun i : Nat × List Mark => (⟨[(7, iV i.1), (0, cV (marks l)), (1, cV (entries es)), (6, .p false [.rt 101])], [], [(101, 156, 3, (i.2.map markC))], []⟩ : St)) (fun i => i.1 ≤ es.length ∧ overL l (es.take i.1) = some i.2) (fun i => es.length - i.1) (0, l) [(101, 20)] (⟨by simp, rfl⟩) ⟨by (repeat first | exact trivial | refine ⟨rfl, ?_⟩), by (repeat first | exact trivial | refine ⟨rfl, ?_⟩), ⟨⟨_, rfl, by rfl⟩, trivial⟩, by (repeat first | exact trivial | refine ⟨⟨_, rfl, rfl⟩, ?_⟩), rfl⟩ ?_))))))))))))))))
     intro i hp
     obtain ⟨k, c⟩ := i
     have hp : k ≤ es.length ∧ overL l (es.take k) = some c := hp
     obtain ⟨p0, p1⟩ := hp
     show Ev _ _ _ _ (⟨[(7, iV k), (0, cV (marks l)), (1, cV (entries es)), (6, .p false [.rt 101])], [], [(101, 156, 3, (c.map markC))], []⟩ : St)
     have hcl := so_len hso p1
     refine sq (sq (rg (xm rfl rfl (xm rfl rfl (xo (q_len_map ttOk rfl rfl) rfl (xb ttOk rfl rfl (nl (et (ev_cond rfl (fun h3 => ?_) (fun h3 => ?_))))))))))
     · try have d3 := of_decide_eq_true h3
       refine ev_skip (et (sq (ev_blk (sq (rg (xm rfl rfl (xm rfl rfl (xm rfl rfl (xo (q_ix_map ttOk rfl rfl rfl rfl (by omega)) rfl (xl ttOk rfl rfl (evl_call (nm := 33) (cf rfl) (c_Marked c es[k]) (rs_of rfl) rfl rfl rfl (xm rfl rfl (xo (q_ext rfl) rfl (xo (q_ext rfl) rfl (xs rfl rfl (xs rfl rfl (nl (et (sq (sq (rg (xm rfl rfl (xo (q_not rfl) rfl (nl (et (ev_cond_n rfl (fun h4 => ?_) (fun h4 => ?_)))))))))))))))))))))))))))
       · try have d4 := of_decide_eq_false h4
         refine sq (rg (xm rfl rfl (evl_call (nm := 39) (cf rfl) (c_l9Copy l (by omega)) (rs_of rfl) rfl rfl rfl (xs rfl rfl (xs rfl rfl (nl (et (ev_ret (evr_then (evr_blk (evr_then (evr_then (evr_blk (evr_then (ret_pureN ttOk rfl rfl ?_)))))))))))))))
         first
         | (rw [so1 (by assumption)]; simp [RpLe, L2, RcLe]; done)
         | (rw [so2 (by assumption) (by omega)]; simp [RpLe, L2, RcLe]; done)
         | (rw [so3 (by assumption) (over_stop hso (by omega) p1 (by assumption))]; simp [RpLe, L2, RcLe]; done)
         | (rw [so4 (by assumption) (by omega) (over_end (by omega) p1)]; simp [RpLe, L2, RcLe]; done)
       · try have d4 := of_decide_eq_true h4
         refine ev_skip (et (rg (xm rfl rfl (xs rfl rfl (nl (eb (et (rg (xm rfl rfl (xa rfl rfl rfl (by omega) rfl (xs rfl rfl (nl (eve_round (k + 1, (markedF c es[k]).1) [(101, 33)] ?hp ⟨by (repeat first | exact trivial | refine ⟨rfl, ?_⟩), by (repeat first | exact trivial | refine ⟨rfl, ?_⟩), ⟨⟨_, rfl, by rfl⟩, trivial⟩, by (repeat first | exact trivial | refine ⟨⟨_, rfl, rfl⟩, ?_⟩), rfl⟩)))))))))))))
         case hp => exact ⟨⟨by omega, over_marked hso (by omega) p1 (by assumption)⟩, by omega⟩
     · try have d3 := of_decide_eq_false h3
       refine ev_exit (evx_then (evx_then (evx_hit (et (sq (rg (xm rfl rfl (xs rfl rfl (xs rfl rfl (nl (et (ev_ret (ret_pureN ttOk rfl rfl ?_)))))))))))))
       first
       | (rw [so1 (by assumption)]; simp [RpLe, L2, RcLe]; done)
       | (rw [so2 (by assumption) (by omega)]; simp [RpLe, L2, RcLe]; done)
       | (rw [so3 (by assumption) (over_stop hso (by omega) p1 (by assumption))]; simp [RpLe, L2, RcLe]; done)
       | (rw [so4 (by assumption) (by omega) (over_end (by omega) p1)]; simp [RpLe, L2, RcLe]; done)
theorem c_SeenOver' (l : List Mark) (es : List Entry) : Pure Tryz.prog 87 [one (marks l), one (entries es)] [one' (marksR (seenOverF l es).1), one' (RC.v (.bool (seenOverF l es).2))] := by
 refine pure_intro (N := 98) Tryz.func87 rfl rfl rfl rfl (fun H w => ?_)
 refine ev_lenm (t := 0) rfl (fun hL => ?_)
 refine ev_lenm (t := 1) rfl (fun hE => ?_)
 refine sq (rg (xs rfl rfl (xs rfl rfl (nl (et (sq (sq (rg (xm rfl rfl (evl_call (nm := 17) (cf rfl) (c_SeenOk' l) (rs_of rfl) rfl rfl rfl (xo (q_not rfl) rfl (nl (et (ev_cond_n rfl (fun h1 => ?_) (fun h1 => ?_)))))))))))))))
 · try have d1 := of_decide_eq_false h1
   refine sq (rg (xs rfl rfl (xs rfl rfl (nl (et (ev_ret (evr_then (ret_pureN ttOk rfl rfl ?_))))))))
   first
   | (rw [so1 (by assumption)]; simp [RpLe, L2, RcLe]; done)
   | (rw [so2 (by assumption) (by omega)]; simp [RpLe, L2, RcLe]; done)
   | (rw [so3 (by assumption) (over_no (by omega) p1 (fresh_no1 (by assumption)))]; simp [RpLe, L2, RcLe]; done)
   | (rw [so3 (by assumption) (over_no (by omega) p1 (fresh_no4 (by assumption)))]; simp [RpLe, L2, RcLe]; done)
   | (rw [so3 (by assumption) (over_no (by omega) p1 (fresh_no3 (by assumption)))]; simp [RpLe, L2, RcLe]; done)
   | (obtain rfl : j = 4 := by omega
      rw [so4 (by assumption) (by omega) (over_end (by omega) p1), outF_all hsc]; simp [RpLe, L2, RcLe]; done)
 · try have d1 := of_decide_eq_true h1
   have hl4 := seen_len h1
   have hso := sok_of h1
   refine ev_skip (et (sq (sq (rg (xm rfl rfl (xo (q_len_map ttOk rfl rfl) rfl (xb ttOk rfl rfl (nl (et (ev_cond rfl (fun h2 => ?_) (fun h2 => ?_)))))))))))
   · try have d2 := of_decide_eq_true h2
     refine sq (rg (xm rfl rfl (evl_call (nm := 23) (cf rfl) (c_copySeen l (by omega)) (rs_of rfl) rfl rfl rfl (xs rfl rfl (xs rfl rfl (nl (et (ev_ret (evr_then (ret_pureN ttOk rfl rfl ?_))))))))))
     first
     | (rw [so1 (by assumption)]; simp [RpLe, L2, RcLe]; done)
     | (rw [so2 (by assumption) (by omega)]; simp [RpLe, L2, RcLe]; done)
     | (rw [so3 (by assumption) (over_no (by omega) p1 (fresh_no1 (by assumption)))]; simp [RpLe, L2, RcLe]; done)
     | (rw [so3 (by assumption) (over_no (by omega) p1 (fresh_no4 (by assumption)))]; simp [RpLe, L2, RcLe]; done)
     | (rw [so3 (by assumption) (over_no (by omega) p1 (fresh_no3 (by assumption)))]; simp [RpLe, L2, RcLe]; done)
     | (obtain rfl : j = 4 := by omega
        rw [so4 (by assumption) (by omega) (over_end (by omega) p1), outF_all hsc]; simp [RpLe, L2, RcLe]; done)
   · try have d2 := of_decide_eq_false h2
     refine ev_skip (et (sq (rg (evl_e (e_mkmap (kt := 2) (et := 156) (by kernel_rfl) rfl rfl) (xs rfl rfl (nl (et (sq (sq (rg (xm rfl rfl (xo (q_len_map ttOk rfl rfl) rfl (xm rfl rfl (nl (et (ev_blk (ev_loop (fun k : Nat => (⟨[(27, iV k), (25, cV (marks l)), (26, iV l.length), (0, cV (marks l)), (1, cV (entries es)), (6, .p false [.mp 24])], [], [], [(24, mapF (l.take k))]⟩ : St)) (fun k => k ≤ l.length) (fun k => l.length - k) 0 [] (by simp) ⟨by (repeat first | exact trivial | refine ⟨rfl, ?_⟩), by (repeat first | exact trivial | refine ⟨rfl, ?_⟩), by (repeat first | exact trivial | refine ⟨⟨_, rfl, rfl⟩, ?_⟩), ⟨⟨_, rfl, rfl⟩, trivial⟩, rfl⟩ ?_)))))))))))))))))
     intro k hp
     have p0 := hp
     show Ev _ _ _ _ (⟨[(27, iV k), (25, cV (marks l)), (26, iV l.length), (0, cV (marks l)), (1, cV (entries es)), (6, .p false [.mp 24])], [], [], [(24, mapF (l.take k))]⟩ : St)
     refine sq (rg (xb ttOk rfl rfl (nl (et (sq (ev_cond rfl (fun h3 => ?_) (fun h3 => ?_)))))))
     · try have d3 := of_decide_eq_true h3
       refine ev_skip (et (sq (ev_blk (sq (rg (xo (q_ix_map ttOk rfl rfl rfl rfl (by omega)) rfl (xl ttOk rfl rfl (evl_e (e_alloc ttOk rfl rfl rfl rfl) (xst ttOk rfl rfl (nl (et (rg (xm rfl rfl (xf ttOk rfl rfl (xl ttOk rfl rfl (xl ttOk rfl rfl (evl_e (e_mapset (f' := mapF (l.take (k + 1))) (kt := 2) (et := 156) (by kernel_rfl) rfl rfl rfl rfl rfl (mapA_next hso (by omega)) rfl) (nl (eb (et (rg (xa rfl rfl rfl (by omega) rfl (xm rfl rfl (nl (eve_round (k + 1) [] ?hp ⟨by (repeat first | exact trivial | refine ⟨rfl, ?_⟩), by (repeat first | exact trivial | refine ⟨rfl, ?_⟩), by (repeat first | exact trivial | refine ⟨⟨_, rfl, rfl⟩, ?_⟩), by (repeat first | exact trivial | refine ⟨⟨_, rfl, rfl⟩, ?_⟩), rfl⟩)))))))))))))))))))))))))
       case hp => exact ⟨by omega, by omega⟩
     · try have d3 := of_decide_eq_false h3
       refine ev_exit (evx_then (evx_then (evx_hit (et (sq (rg (xm rfl rfl (evl_call (nm := 37) (cf rfl) (c_lastSeen l) (rs_of rfl) rfl rfl rfl (xs rfl rfl (nl (et (sq (sq (rg (xm rfl rfl (xo (q_len_map ttOk rfl rfl) rfl (xm rfl rfl (nl (et (ev_blk (ev_loop (fun i : Nat × List Mark × Int => (⟨[(40, iV i.1), (38, cV (entries es)), (39, iV es.length), (0, cV (marks l)), (6, .p false [.mp 24]), (9, iV i.2.2)], [], [], [(24, mapF i.2.1)]⟩ : St)) (fun i => i.1 ≤ es.length ∧ overL l (es.take i.1) = some i.2.1 ∧ i.2.2 = lastF i.2.1) (fun i => es.length - i.1) (0, l, lastF l) [] (⟨by simp, rfl, rfl⟩) ⟨by (repeat first | exact trivial | refine ⟨rfl, ?_⟩), by (repeat first | exact trivial | refine ⟨rfl, ?_⟩), by (repeat first | exact trivial | refine ⟨⟨_, rfl, rfl⟩, ?_⟩), ⟨⟨_, rfl, by rw [List.take_of_length_le (by omega)]⟩, trivial⟩, rfl⟩ ?_)))))))))))))))))))))
       intro i hp
       obtain ⟨k, c, s⟩ := i
       have hp : k ≤ es.length ∧ overL l (es.take k) = some c ∧ s = lastF c := hp
       obtain ⟨p0, p1, p2⟩ := hp
       show Ev _ _ _ _ (⟨[(40, iV k), (38, cV (entries es)), (39, iV es.length), (0, cV (marks l)), (6, .p false [.mp 24]), (9, iV s)], [], [], [(24, mapF c)]⟩ : St)
       subst p2
       have hcl := so_len hso p1
       have hsc := over_sok hso p1
       refine sq (rg (xb ttOk rfl rfl (nl (et (sq (ev_cond rfl (fun h4 => ?_) (fun h4 => ?_)))))))
       · try have d4 := of_decide_eq_true h4
         refine ev_skip (et (sq (ev_blk (sq (rg (xo (q_ix_map ttOk rfl rfl rfl rfl (by omega)) rfl (xl ttOk rfl rfl (evl_e (e_alloc ttOk rfl rfl rfl rfl) (xst ttOk rfl rfl (nl (et (sq (sq (rg (xl ttOk rfl rfl (evl_call (nm := 45) (cf rfl) (c_EntryOk' es[k]) (rs_of rfl) rfl rfl rfl (xo (q_not rfl) rfl (xm rfl rfl (evl_partn rfl rfl (fun h5 => ?_) (fun h5 => ?_))))))))))))))))))))
         · try have d5 := of_decide_eq_false h5
           refine gn (nt h5) rfl rfl rfl (gn (nt h5) rfl rfl rfl (gn (nt h5) rfl rfl rfl (gn (nt h5) rfl rfl rfl (gn (nt h5) rfl rfl rfl (gn (nt h5) rfl rfl rfl (gn (nt h5) rfl rfl rfl (gn (nt h5) rfl rfl rfl (xo (q_pick_t rfl (nt h5) rfl) rfl (xm rfl rfl (gn rfl rfl rfl rfl (gn rfl rfl rfl rfl (gn rfl rfl rfl rfl (gn rfl rfl rfl rfl (xo (q_pick_t rfl rfl rfl) rfl (nl (et (ev_cond_kt rfl rfl (sq (rg (xm rfl rfl (evl_call (nm := 64) (cf rfl) (c_copySeen l (by omega)) (rs_of rfl) rfl rfl rfl (xs rfl rfl (xs rfl rfl (nl (et (ev_ret (evr_then (evr_blk (evr_then (evr_then (evr_blk (evr_then (ret_pureN ttOk rfl rfl ?_)))))))))))))))))))))))))))))))))
           first
           | (rw [so1 (by assumption)]; simp [RpLe, L2, RcLe]; done)
           | (rw [so2 (by assumption) (by omega)]; simp [RpLe, L2, RcLe]; done)
           | (rw [so3 (by assumption) (over_no (by omega) p1 (fresh_no1 (by assumption)))]; simp [RpLe, L2, RcLe]; done)
           | (rw [so3 (by assumption) (over_no (by omega) p1 (fresh_no4 (by assumption)))]; simp [RpLe, L2, RcLe]; done)
           | (rw [so3 (by assumption) (over_no (by omega) p1 (fresh_no3 (by assumption)))]; simp [RpLe, L2, RcLe]; done)
           | (obtain rfl : j = 4 := by omega
              rw [so4 (by assumption) (by omega) (over_end (by omega) p1), outF_all hsc]; simp [RpLe, L2, RcLe]; done)
         · try have d5 := of_decide_eq_true h5
           refine go (nf h5) rfl rfl (q_fieldAddr ttOk rfl) rfl (go (nf h5) rfl rfl (q_load ttOk rfl) rfl (gm (nf h5) rfl rfl rfl rfl (go (nf h5) rfl rfl (q_fieldAddr ttOk rfl) rfl (go (nf h5) rfl rfl (q_load ttOk rfl) rfl (go (nf h5) rfl rfl (q_lookup_s (us := [.int .i64 (findM c es[k].client).client, .int .i64 (findM c es[k].client).seq, .int .i64 (findM c es[k].client).index]) (kt := 2) (et := 156) (by kernel_rfl) ttOk rfl rfl rfl rfl rfl rfl (look_at c _) (mark_one _)) rfl (go (nf h5) rfl rfl (q_field ttOk rfl) rfl (go (nf h5) rfl rfl (q_bin ttOk rfl) rfl (xo (q_pick_f rfl (nf h5) rfl) rfl (xm rfl rfl (evl_part rfl rfl (fun h6 => ?_) (fun h6 => ?_)))))))))))
           · try have d6 := of_decide_eq_true h6
             refine gn h6 rfl rfl rfl (gn h6 rfl rfl rfl (gn h6 rfl rfl rfl (gn h6 rfl rfl rfl (xo (q_pick_t rfl h6 rfl) rfl (nl (et (ev_cond_kt rfl rfl (sq (rg (xm rfl rfl (evl_call (nm := 64) (cf rfl) (c_copySeen l (by omega)) (rs_of rfl) rfl rfl rfl (xs rfl rfl (xs rfl rfl (nl (et (ev_ret (evr_then (evr_blk (evr_then (evr_then (evr_blk (evr_then (ret_pureN ttOk rfl rfl ?_)))))))))))))))))))))))
             first
             | (rw [so1 (by assumption)]; simp [RpLe, L2, RcLe]; done)
             | (rw [so2 (by assumption) (by omega)]; simp [RpLe, L2, RcLe]; done)
             | (rw [so3 (by assumption) (over_no (by omega) p1 (fresh_no1 (by assumption)))]; simp [RpLe, L2, RcLe]; done)
             | (rw [so3 (by assumption) (over_no (by omega) p1 (fresh_no4 (by assumption)))]; simp [RpLe, L2, RcLe]; done)
             | (rw [so3 (by assumption) (over_no (by omega) p1 (fresh_no3 (by assumption)))]; simp [RpLe, L2, RcLe]; done)
             | (obtain rfl : j = 4 := by omega
                rw [so4 (by assumption) (by omega) (over_end (by omega) p1), outF_all hsc]; simp [RpLe, L2, RcLe]; done)
           · try have d6 := of_decide_eq_false h6
             refine go h6 rfl rfl (q_fieldAddr ttOk rfl) rfl (go h6 rfl rfl (q_load ttOk rfl) rfl (gm h6 rfl rfl rfl rfl (go h6 rfl rfl (q_bin ttOk rfl) rfl (xo (q_pick_f rfl h6 rfl) rfl (nl (et (ev_cond rfl (fun h7 => ?_) (fun h7 => ?_))))))))
             · try have d7 := of_decide_eq_true h7
               refine sq (rg (xm rfl rfl (evl_call (nm := 64) (cf rfl) (c_copySeen l (by omega)) (rs_of rfl) rfl rfl rfl (xs rfl rfl (xs rfl rfl (nl (et (ev_ret (evr_then (evr_blk (evr_then (evr_then (evr_blk (evr_then (ret_pureN ttOk rfl rfl ?_)))))))))))))))
               first
               | (rw [so1 (by assumption)]; simp [RpLe, L2, RcLe]; done)
               | (rw [so2 (by assumption) (by omega)]; simp [RpLe, L2, RcLe]; done)
               | (rw [so3 (by assumption) (over_no (by omega) p1 (fresh_no1 (by assumption)))]; simp [RpLe, L2, RcLe]; done)
               | (rw [so3 (by assumption) (over_no (by omega) p1 (fresh_no4 (by assumption)))]; simp [RpLe, L2, RcLe]; done)
               | (rw [so3 (by assumption) (over_no (by omega) p1 (fresh_no3 (by assumption)))]; simp [RpLe, L2, RcLe]; done)
               | (obtain rfl : j = 4 := by omega
                  rw [so4 (by assumption) (by omega) (over_end (by omega) p1), outF_all hsc]; simp [RpLe, L2, RcLe]; done)
             · try have d7 := of_decide_eq_false h7
               refine ev_skip (et (sq ?_))
               have hfr := fresh_yes2 (l := c) (e := es[k]) (by assumption) (by assumption) (by assumption)
               refine rg (xm rfl rfl (xf ttOk rfl rfl (xl ttOk rfl rfl (evl_e (e_mapdel (kt2 := 2) (f' := fun q => if q = es[k].client then none else mapF c q) (kt := 2) (et := 156) (by kernel_rfl) rfl rfl rfl rfl (fun q => rfl) rfl) (nl (et (sq (rg (xm rfl rfl (xf ttOk rfl rfl (xl ttOk rfl rfl (xf ttOk rfl rfl (xl ttOk rfl rfl (xf ttOk rfl rfl (xl ttOk rfl rfl (xf ttOk rfl rfl (xl ttOk rfl rfl (xo (q_build ttOk rfl) rfl (evl_e (e_mapset (f' := mapF (insF c (eMark es[k]))) (kt := 2) (et := 156) (by kernel_rfl) rfl rfl rfl rfl rfl (mapB_next c es[k]) rfl) (nl (et (rg (xf ttOk rfl rfl (xl ttOk rfl rfl (xs rfl rfl (nl (eb (et (rg (xa rfl rfl rfl (by omega) rfl (xm rfl rfl (nl (eve_round (k + 1, insF c (eMark es[k]), es[k].index) [] ?hp ⟨by (repeat first | exact trivial | refine ⟨rfl, ?_⟩), by (repeat first | exact trivial | refine ⟨rfl, ?_⟩), by (repeat first | exact trivial | refine ⟨⟨_, rfl, rfl⟩, ?_⟩), by (repeat first | exact trivial | refine ⟨⟨_, rfl, rfl⟩, ?_⟩), rfl⟩)))))))))))))))))))))))))))))))))
               case hp => exact ⟨⟨by omega, over_yes (by omega) p1 hfr, (fresh_ok hsc hfr).2.symm⟩, by omega⟩
       · try have d4 := of_decide_eq_false h4
         refine ev_exit (evx_then (evx_then (evx_hit (et (sq ?_)))))
         obtain rfl : k = es.length := by omega
         refine rg (evl_e (e_lit ttOk rfl rfl rfl) (xs rfl rfl (nl (et (sq (sq (rg (xs rfl rfl (nl (et (ev_blk (ev_loop (fun i : Nat × Int => (⟨[(13, iV i.2), (6, .p false [.mp 24]), (12, .p false [.rt 101])], [], [(101, 156, 3, ((outF c i.1).map markC))], [(24, mapF c)]⟩ : St)) (fun i => i.1 ≤ 4 ∧ i.2 = (i.1 : Int) + 2) (fun i => 4 - i.1) (0, 2) [(101, 81)] (⟨by simp, rfl⟩) ⟨by (repeat first | exact trivial | refine ⟨rfl, ?_⟩), by (repeat first | exact trivial | refine ⟨rfl, ?_⟩), ⟨⟨_, rfl, by rw [outF_zero hsc]; rfl⟩, trivial⟩, by (repeat first | exact trivial | refine ⟨⟨_, rfl, rfl⟩, ?_⟩), rfl⟩ ?_))))))))))))
         intro i hp
         obtain ⟨j, z⟩ := i
         have hp : j ≤ 4 ∧ z = (j : Int) + 2 := hp
         obtain ⟨q0, q1⟩ := hp
         show Ev _ _ _ _ (⟨[(13, iV z), (6, .p false [.mp 24]), (12, .p false [.rt 101])], [], [(101, 156, 3, ((outF c j).map markC))], [(24, mapF c)]⟩ : St)
         refine sq (sq (rg (xm rfl rfl (xb ttOk rfl rfl (nl (et (ev_cond rfl (fun h8 => ?_) (fun h8 => ?_))))))))
         · try have d8 := of_decide_eq_true h8
           refine ev_skip (et (sq (ev_blk (sq (rg (xm rfl rfl (xm rfl rfl (xo (q_lookup_ok (us := [.int .i64 (findM c z).client, .int .i64 (findM c z).seq, .int .i64 (findM c z).index]) (kt := 2) (et := 156) (by kernel_rfl) ttOk rfl rfl rfl rfl rfl rfl (look_at c _) (look_some c _) (mark_one _)) rfl (xm rfl rfl (xo (q_ext rfl) rfl (xo (q_ext rfl) rfl (evl_e (e_alloc ttOk rfl rfl rfl rfl) (xst ttOk rfl rfl (xs rfl rfl (nl (et (sq (rg (xm rfl rfl (nl (et (ev_cond rfl (fun h9 => ?_) (fun h9 => ?_)))))))))))))))))))))))
           · try have d9 := of_decide_eq_true h9
             have hol : (outF c j).length ≤ c.length := List.length_filter_le _ _
             refine rg (xm rfl rfl (xl ttOk rfl rfl (evl_e (e_lit ttOk rfl rfl rfl) (evl_e (e_app ttOk rfl rfl rfl rfl rfl rfl rfl (by simp; omega) rfl rfl) (xs rfl rfl (nl (eb (et (rg (xm rfl rfl (xa rfl rfl rfl (by omega) rfl (xs rfl rfl (nl (eve_round (j + 1, _) [(101, 96)] ?hp ⟨by (repeat first | exact trivial | refine ⟨rfl, ?_⟩), by (repeat first | exact trivial | refine ⟨rfl, ?_⟩), ⟨⟨_, rfl, by exact out_yes hsc q1 (by assumption)⟩, trivial⟩, by (repeat first | exact trivial | refine ⟨⟨_, rfl, rfl⟩, ?_⟩), rfl⟩))))))))))))))
             case hp => exact ⟨⟨by omega, by omega⟩, by omega⟩
           · try have d9 := of_decide_eq_false h9
             refine ev_skip (eb (et (rg (xm rfl rfl (xa rfl rfl rfl (by omega) rfl (xs rfl rfl (nl (eve_round (j + 1, _) [(101, 101)] ?hp ⟨by (repeat first | exact trivial | refine ⟨rfl, ?_⟩), by (repeat first | exact trivial | refine ⟨rfl, ?_⟩), ⟨⟨_, rfl, by exact out_no hsc q1 (by assumption)⟩, trivial⟩, by (repeat first | exact trivial | refine ⟨⟨_, rfl, rfl⟩, ?_⟩), rfl⟩))))))))
             case hp => exact ⟨⟨by omega, by omega⟩, by omega⟩
         · try have d8 := of_decide_eq_false h8
           refine ev_exit (evx_then (evx_then (evx_hit (et (sq (rg (xm rfl rfl (xs rfl rfl (xs rfl rfl (nl (et (ev_ret (ret_pureN ttOk rfl rfl ?_)))))))))))))
           first
           | (rw [so1 (by assumption)]; simp [RpLe, L2, RcLe]; done)
           | (rw [so2 (by assumption) (by omega)]; simp [RpLe, L2, RcLe]; done)
           | (rw [so3 (by assumption) (over_no (by omega) p1 (fresh_no1 (by assumption)))]; simp [RpLe, L2, RcLe]; done)
           | (rw [so3 (by assumption) (over_no (by omega) p1 (fresh_no4 (by assumption)))]; simp [RpLe, L2, RcLe]; done)
           | (rw [so3 (by assumption) (over_no (by omega) p1 (fresh_no3 (by assumption)))]; simp [RpLe, L2, RcLe]; done)
           | (obtain rfl : j = 4 := by omega
              rw [so4 (by assumption) (by omega) (over_end (by omega) p1), outF_all hsc]; simp [RpLe, L2, RcLe]; done)

end Go.Proofs.YtpbhcdgdabfhfaaGreat
