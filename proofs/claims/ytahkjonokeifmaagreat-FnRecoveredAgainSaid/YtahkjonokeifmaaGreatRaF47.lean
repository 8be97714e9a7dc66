/- Walks of functions of the program, printed by a program of the prover. -/
import Derived.Test.YtahkjonokeifmaaGreatRaF34
import Derived.Test.YtahkjonokeifmaaGreatRaVF
import Derived.Test.YtahkjonokeifmaaGreatRaVY
import Derived.Test.YtahkjonokeifmaaGreatRaVZ
namespace Go.Proofs.YtahkjonokeifmaaGreat
open Go.ChangeShapes Go.WideShapes Go.ChangeAt Go.RowKit
set_option linter.unusedVariables false
set_option linter.unusedSimpArgs false
set_option maxHeartbeats 1000000
set_option maxRecDepth 100000
attribute [local irreducible] EvL Ev EvE Quiet Eff Pure RDk RDb RDo
theorem so_len {l c : List Mark} {es : List Entry} (h : SOk l) (hc : overL l es = some c) : c.length ≤ 4 := seen_len (of_sok (over_sok h hc))
theorem c_SeenOver (l : List Mark) (es : List Entry) : Pure Tryz.prog 128 [one (marks l), one (entries es)] [one' (marksR (seenOverF l es).1), one' (RC.v (.bool (seenOverF l es).2))] := by
 refine pure_intro (N := 42) Tryz.func128 rfl rfl rfl rfl (fun H w => ?_)
 refine ev_lenm (t := 0) rfl (fun hL => ?_)
 refine ev_lenm (t := 1) rfl (fun hE => ?_)
 refine sq (rg (xs rfl rfl (xs rfl rfl (nl (et (sq (sq (rg (xm rfl rfl (evl_call (nm := 11) (cf rfl) (c_SeenOk l) (rs_of rfl) rfl rfl rfl (xo (q_not rfl) rfl (nl (et (ev_cond_n rfl (fun h1 => ?_) (fun h1 => ?_)))))))))))))))
 ·try have d1 := of_decide_eq_false h1
  refine sq (rg (evl_e (e_lit ttOk rfl rfl rfl) (xs rfl rfl (xs rfl rfl (nl (et (ev_ret (evr_then (ret_pureN ttOk rfl rfl ?_)))))))))
  first
  | (rw [so1 ‹_›]; simp [RpLe, L2, RcLe]; done)
  | (rw [so2 ‹_› om]; simp [RpLe, L2, RcLe]; done)
  | (rw [so3 ‹_› (over_stop hso om p1 ‹_›)]; simp [RpLe, L2, RcLe]; done)
  | (rw [so4 ‹_› om (over_end om p1)]; simp [RpLe, L2, RcLe]; done)
 ·try have d1 := of_decide_eq_true h1
  have hl4 := seen_len h1
  have hso := sok_of h1
  refine ev_skip (et (sq (sq (rg (xm rfl rfl (xo (q_len_map ttOk rfl rfl) rfl (xb ttOk rfl rfl (nl (et (ev_cond rfl (fun h2 => ?_) (fun h2 => ?_)))))))))))
  ·try have d2 := of_decide_eq_true h2
   refine sq (rg (xm rfl rfl (evl_call (nm := 18) (cf rfl) (c_l9Copy l om) (rs_of rfl) rfl rfl rfl (xs rfl rfl (xs rfl rfl (nl (et (ev_ret (evr_then (ret_pureN ttOk rfl rfl ?_))))))))))
   first
   | (rw [so1 ‹_›]; simp [RpLe, L2, RcLe]; done)
   | (rw [so2 ‹_› om]; simp [RpLe, L2, RcLe]; done)
   | (rw [so3 ‹_› (over_stop hso om p1 ‹_›)]; simp [RpLe, L2, RcLe]; done)
   | (rw [so4 ‹_› om (over_end om p1)]; simp [RpLe, L2, RcLe]; done)
  ·try have d2 := of_decide_eq_false h2
   refine ev_skip (et (sq (rg (xm rfl rfl (evl_call (nm := 20) (cf rfl) (c_l9Copy l om) (rs_of rfl) rfl rfl rfl (xs rfl rfl (nl (et (sq (sq (rg (xs rfl rfl (nl (et (ev_blk (ev_loop (fun i : Nat × List Mark => (⟨[(7, iV i.1), (0, cV (marks l)), (1, cV (entries es)), (6, .p false [.rt 101])], [], [(101, 76, 3, (i.2.map markC))], []⟩ : St)) (fun i => i.1 ≤ es.length ∧ overL l (es.take i.1) = some i.2) (fun i => es.length - i.1) (0, l) [(101, 20)] (⟨by simp, rfl⟩) ⟨trf, trf, ⟨⟨_, rfl, by rfl⟩, trivial⟩, tre, rfl⟩ ?_))))))))))))))))
   intro i hp
   obtain ⟨k, c⟩ := i
   have hp : k ≤ es.length ∧ overL l (es.take k) = some c := hp
   obtain ⟨p0, p1⟩ := hp
   show Ev _ _ _ _ (⟨[(7, iV k), (0, cV (marks l)), (1, cV (entries es)), (6, .p false [.rt 101])], [], [(101, 76, 3, (c.map markC))], []⟩ : St)
   have hcl := so_len hso p1
   refine sq (sq (rg (xm rfl rfl (xm rfl rfl (xo (q_len_map ttOk rfl rfl) rfl (xb ttOk rfl rfl (nl (et (ev_cond rfl (fun h3 => ?_) (fun h3 => ?_))))))))))
   ·try have d3 := of_decide_eq_true h3
    refine ev_skip (et (sq (ev_blk (sq (rg (xm rfl rfl (xm rfl rfl (xm rfl rfl (xo (q_ix_map ttOk rfl rfl rfl rfl om) rfl (xl ttOk rfl rfl (evl_call (nm := 33) (cf rfl) (c_Marked c es[k]) (rs_of rfl) rfl rfl rfl (xm rfl rfl (xo (q_ext rfl) rfl (xo (q_ext rfl) rfl (xs rfl rfl (xs rfl rfl (nl (et (sq (sq (rg (xm rfl rfl (xo (q_not rfl) rfl (nl (et (ev_cond_n rfl (fun h4 => ?_) (fun h4 => ?_)))))))))))))))))))))))))))
    ·try have d4 := of_decide_eq_false h4
     refine sq (rg (xm rfl rfl (evl_call (nm := 39) (cf rfl) (c_l9Copy l om) (rs_of rfl) rfl rfl rfl (xs rfl rfl (xs rfl rfl (nl (et (ev_ret (evr_then (evr_blk (evr_then (evr_then (evr_blk (evr_then (ret_pureN ttOk rfl rfl ?_)))))))))))))))
     first
     | (rw [so1 ‹_›]; simp [RpLe, L2, RcLe]; done)
     | (rw [so2 ‹_› om]; simp [RpLe, L2, RcLe]; done)
     | (rw [so3 ‹_› (over_stop hso om p1 ‹_›)]; simp [RpLe, L2, RcLe]; done)
     | (rw [so4 ‹_› om (over_end om p1)]; simp [RpLe, L2, RcLe]; done)
    ·try have d4 := of_decide_eq_true h4
     refine ev_skip (et (rg (xm rfl rfl (xs rfl rfl (nl (eb (et (rg (xm rfl rfl (xa rfl rfl rfl om rfl (xs rfl rfl (nl (eve_round (k + 1, (markedF c es[k]).1) [(101, 33)] ?hp ⟨trf, trf, ⟨⟨_, rfl, by rfl⟩, trivial⟩, tre, rfl⟩)))))))))))))
     case hp => exact ⟨⟨by omega, over_marked hso om p1 ‹_›⟩, by omega⟩
   ·try have d3 := of_decide_eq_false h3
    refine ev_exit (evx_then (evx_then (evx_hit (et (sq (rg (xm rfl rfl (xs rfl rfl (xs rfl rfl (nl (et (ev_ret (ret_pureN ttOk rfl rfl ?_)))))))))))))
    first
    | (rw [so1 ‹_›]; simp [RpLe, L2, RcLe]; done)
    | (rw [so2 ‹_› om]; simp [RpLe, L2, RcLe]; done)
    | (rw [so3 ‹_› (over_stop hso om p1 ‹_›)]; simp [RpLe, L2, RcLe]; done)
    | (rw [so4 ‹_› om (over_end om p1)]; simp [RpLe, L2, RcLe]; done)
theorem c_SeenOver' (l : List Mark) (es : List Entry) : Pure Tryz.prog 82 [one (marks l), one (entries es)] [one' (marksR (seenOverF l es).1), one' (RC.v (.bool (seenOverF l es).2))] := by
 refine pure_intro (N := 98) Tryz.func82 rfl rfl rfl rfl (fun H w => ?_)
 refine ev_lenm (t := 0) rfl (fun hL => ?_)
 refine ev_lenm (t := 1) rfl (fun hE => ?_)
 refine sq (rg (xs rfl rfl (xs rfl rfl (nl (et (sq (sq (rg (xm rfl rfl (evl_call (nm := 17) (cf rfl) (c_SeenOk' l) (rs_of rfl) rfl rfl rfl (xo (q_not rfl) rfl (nl (et (ev_cond_n rfl (fun h1 => ?_) (fun h1 => ?_)))))))))))))))
 try have d1 := of_decide_eq_false h1
 refine sq (rg (xs rfl rfl (xs rfl rfl (nl (et (ev_ret (evr_then (ret_pureN ttOk rfl rfl ?_))))))))
 rotate_left
 try have d1 := of_decide_eq_true h1
 have hl4 := seen_len h1
 have hso := sok_of h1
 refine ev_skip (et (sq (sq (rg (xm rfl rfl (xo (q_len_map ttOk rfl rfl) rfl (xb ttOk rfl rfl (nl (et (ev_cond rfl (fun h2 => ?_) (fun h2 => ?_)))))))))))
 try have d2 := of_decide_eq_true h2
 refine sq (rg (xm rfl rfl (evl_call (nm := 23) (cf rfl) (c_copySeen l om) (rs_of rfl) rfl rfl rfl (xs rfl rfl (xs rfl rfl (nl (et (ev_ret (evr_then (ret_pureN ttOk rfl rfl ?_))))))))))
 rotate_left
 try have d2 := of_decide_eq_false h2
 refine ev_skip (et (sq (rg (evl_e (e_mkmap (kt := 2) (et := 76) kr rfl rfl) (xs rfl rfl (nl (et (sq (sq (rg (xm rfl rfl (xo (q_len_map ttOk rfl rfl) rfl (xm rfl rfl (nl (et (ev_blk (ev_loop (fun k : Nat => (⟨[(27, iV k), (25, cV (marks l)), (26, iV l.length), (0, cV (marks l)), (1, cV (entries es)), (6, .p false [.mp 24])], [], [], [(24, mapF (l.take k))]⟩ : St)) (fun k => k ≤ l.length) (fun k => l.length - k) 0 [] (by simp) ⟨trf, trf, tre, ⟨⟨_, rfl, rfl⟩, trivial⟩, rfl⟩ ?_)))))))))))))))))
 intro k hp
 have p0 := hp
 show Ev _ _ _ _ (⟨[(27, iV k), (25, cV (marks l)), (26, iV l.length), (0, cV (marks l)), (1, cV (entries es)), (6, .p false [.mp 24])], [], [], [(24, mapF (l.take k))]⟩ : St)
 refine sq (rg (xb ttOk rfl rfl (nl (et (sq (ev_cond rfl (fun h3 => ?_) (fun h3 => ?_)))))))
 try have d3 := of_decide_eq_true h3
 refine ev_skip (et (sq (ev_blk (sq (rg (xo (q_ix_map ttOk rfl rfl rfl rfl om) rfl (xl ttOk rfl rfl (evl_e (e_alloc ttOk rfl rfl rfl rfl) (xst ttOk rfl rfl (nl (et (rg (xm rfl rfl (xf ttOk rfl rfl (xl ttOk rfl rfl (xl ttOk rfl rfl (evl_e (e_mapset (f' := mapF (l.take (k + 1))) (kt := 2) (et := 76) kr rfl rfl rfl rfl rfl (mapA_next hso om) rfl) (nl (eb (et (rg (xa rfl rfl rfl om rfl (xm rfl rfl (nl (eve_round (k + 1) [] ?hp lei)))))))))))))))))))))))))
 case hp => exact ⟨by omega, by omega⟩
 try have d3 := of_decide_eq_false h3
 refine ev_exit (evx_then (evx_then (evx_hit (et (sq (rg (xm rfl rfl (evl_call (nm := 37) (cf rfl) (c_lastSeen l) (rs_of rfl) rfl rfl rfl (xs rfl rfl (nl (et (sq (sq (rg (xm rfl rfl (xo (q_len_map ttOk rfl rfl) rfl (xm rfl rfl (nl (et (ev_blk (ev_loop (fun i : Nat × List Mark × Int => (⟨[(40, iV i.1), (38, cV (entries es)), (39, iV es.length), (0, cV (marks l)), (6, .p false [.mp 24]), (9, iV i.2.2)], [], [], [(24, mapF i.2.1)]⟩ : St)) (fun i => i.1 ≤ es.length ∧ overL l (es.take i.1) = some i.2.1 ∧ i.2.2 = lastF i.2.1) (fun i => es.length - i.1) (0, l, lastF l) [] (⟨by simp, rfl, rfl⟩) ⟨trf, trf, tre, ⟨⟨_, rfl, by rw [List.take_of_length_le om]⟩, trivial⟩, rfl⟩ ?_)))))))))))))))))))))
 intro i hp
 obtain ⟨k, c, s⟩ := i
 have hp : k ≤ es.length ∧ overL l (es.take k) = some c ∧ s = lastF c := hp
 obtain ⟨p0, p1, p2⟩ := hp
 show Ev _ _ _ _ (⟨[(40, iV k), (38, cV (entries es)), (39, iV es.length), (0, cV (marks l)), (6, .p false [.mp 24]), (9, iV s)], [], [], [(24, mapF c)]⟩ : St)
 subst p2
 have hcl := so_len hso p1
 have hsc := over_sok hso p1
 refine sq (rg (xb ttOk rfl rfl (nl (et (sq (ev_cond rfl (fun h4 => ?_) (fun h4 => ?_)))))))
 try have d4 := of_decide_eq_true h4
 refine ev_skip (et (sq (ev_blk (sq (rg (xo (q_ix_map ttOk rfl rfl rfl rfl om) rfl (xl ttOk rfl rfl (evl_e (e_alloc ttOk rfl rfl rfl rfl) (xst ttOk rfl rfl (nl (et (sq (sq (rg (xl ttOk rfl rfl (evl_call (nm := 45) (cf rfl) (c_EntryOk' es[k]) (rs_of rfl) rfl rfl rfl (xo (q_not rfl) rfl (xm rfl rfl (evl_partn rfl rfl (fun h5 => ?_) (fun h5 => ?_))))))))))))))))))))
 try have d5 := of_decide_eq_false h5
 refine gn (nt h5) rfl rfl rfl (gn (nt h5) rfl rfl rfl (gn (nt h5) rfl rfl rfl (gn (nt h5) rfl rfl rfl (gn (nt h5) rfl rfl rfl (gn (nt h5) rfl rfl rfl (gn (nt h5) rfl rfl rfl (gn (nt h5) rfl rfl rfl (xo (q_pick_t rfl (nt h5) rfl) rfl (xm rfl rfl (gn rfl rfl rfl rfl (gn rfl rfl rfl rfl (gn rfl rfl rfl rfl (gn rfl rfl rfl rfl (xo (q_pick_t rfl rfl rfl) rfl (nl (et (ev_cond_kt rfl rfl (sq (rg (xm rfl rfl (evl_call (nm := 64) (cf rfl) (c_copySeen l om) (rs_of rfl) rfl rfl rfl (xs rfl rfl (xs rfl rfl (nl (et (ev_ret (evr_then (evr_blk (evr_then (evr_then (evr_blk (evr_then (ret_pureN ttOk rfl rfl ?_)))))))))))))))))))))))))))))))))
 rotate_left
 try have d5 := of_decide_eq_true h5
 refine go (nf h5) rfl rfl (q_fieldAddr ttOk rfl) rfl (go (nf h5) rfl rfl (q_load ttOk rfl) rfl (gm (nf h5) rfl rfl rfl rfl (go (nf h5) rfl rfl (q_fieldAddr ttOk rfl) rfl (go (nf h5) rfl rfl (q_load ttOk rfl) rfl (go (nf h5) rfl rfl (q_lookup_s (us := [.int .i64 (findM c es[k].client).client, .int .i64 (findM c es[k].client).seq, .int .i64 (findM c es[k].client).index]) (kt := 2) (et := 76) kr ttOk rfl rfl rfl rfl rfl rfl (look_at c _) (mark_one _)) rfl (go (nf h5) rfl rfl (q_field ttOk rfl) rfl (go (nf h5) rfl rfl (q_bin ttOk rfl) rfl (xo (q_pick_f rfl (nf h5) rfl) rfl (xm rfl rfl (evl_part rfl rfl (fun h6 => ?_) (fun h6 => ?_)))))))))))
 try have d6 := of_decide_eq_true h6
 refine gn h6 rfl rfl rfl (gn h6 rfl rfl rfl (gn h6 rfl rfl rfl (gn h6 rfl rfl rfl (xo (q_pick_t rfl h6 rfl) rfl (nl (et (ev_cond_kt rfl rfl (sq (rg (xm rfl rfl (evl_call (nm := 64) (cf rfl) (c_copySeen l om) (rs_of rfl) rfl rfl rfl (xs rfl rfl (xs rfl rfl (nl (et (ev_ret (evr_then (evr_blk (evr_then (evr_then (evr_blk (evr_then (ret_pureN ttOk rfl rfl ?_)))))))))))))))))))))))
 rotate_left
 try have d6 := of_decide_eq_false h6
 refine go h6 rfl rfl (q_fieldAddr ttOk rfl) rfl (go h6 rfl rfl (q_load ttOk rfl) rfl (gm h6 rfl rfl rfl rfl (go h6 rfl rfl (q_bin ttOk rfl) rfl (xo (q_pick_f rfl h6 rfl) rfl (nl (et (ev_cond rfl (fun h7 => ?_) (fun h7 => ?_))))))))
 try have d7 := of_decide_eq_true h7
 refine sq (rg (xm rfl rfl (evl_call (nm := 64) (cf rfl) (c_copySeen l om) (rs_of rfl) rfl rfl rfl (xs rfl rfl (xs rfl rfl (nl (et (ev_ret (evr_then (evr_blk (evr_then (evr_then (evr_blk (evr_then (ret_pureN ttOk rfl rfl ?_)))))))))))))))
 rotate_left
 try have d7 := of_decide_eq_false h7
 refine ev_skip (et (sq ?_))
 have hfr := fresh_yes2 (l := c) (e := es[k]) ‹_› ‹_› ‹_›
 refine rg (xm rfl rfl (xf ttOk rfl rfl (xl ttOk rfl rfl (evl_e (e_mapdel (kt2 := 2) (f' := fun q => if q = es[k].client then none else mapF c q) (kt := 2) (et := 76) kr rfl rfl rfl rfl (fun q => rfl) rfl) (nl (et (sq (rg (xm rfl rfl (xf ttOk rfl rfl (xl ttOk rfl rfl (xf ttOk rfl rfl (xl ttOk rfl rfl (xf ttOk rfl rfl (xl ttOk rfl rfl (xf ttOk rfl rfl (xl ttOk rfl rfl (xo (q_build ttOk rfl) rfl (evl_e (e_mapset (f' := mapF (insF c (eMark es[k]))) (kt := 2) (et := 76) kr rfl rfl rfl rfl rfl (mapB_next c es[k]) rfl) (nl (et (rg (xf ttOk rfl rfl (xl ttOk rfl rfl (xs rfl rfl (nl (eb (et (rg (xa rfl rfl rfl om rfl (xm rfl rfl (nl (eve_round (k + 1, insF c (eMark es[k]), es[k].index) [] ?hp lei)))))))))))))))))))))))))))))))))
 case hp => exact ⟨⟨by omega, over_yes om p1 hfr, (fresh_ok hsc hfr).2.symm⟩, by omega⟩
 try have d4 := of_decide_eq_false h4
 refine ev_exit (evx_then (evx_then (evx_hit (et (sq ?_)))))
 obtain rfl : k = es.length := by omega
 refine rg (evl_e (e_lit ttOk rfl rfl rfl) (xs rfl rfl (nl (et (sq (sq (rg (xs rfl rfl (nl (et (ev_blk (ev_loop (fun i : Nat × Int => (⟨[(13, iV i.2), (6, .p false [.mp 24]), (12, .p false [.rt 101])], [], [(101, 76, 3, ((outF c i.1).map markC))], [(24, mapF c)]⟩ : St)) (fun i => i.1 ≤ 4 ∧ i.2 = (i.1 : Int) + 2) (fun i => 4 - i.1) (0, 2) [(101, 81)] (⟨by simp, rfl⟩) ⟨trf, trf, ⟨⟨_, rfl, by rw [outF_zero hsc]; rfl⟩, trivial⟩, tre, rfl⟩ ?_))))))))))))
 intro i hp
 obtain ⟨j, z⟩ := i
 have hp : j ≤ 4 ∧ z = (j : Int) + 2 := hp
 obtain ⟨q0, q1⟩ := hp
 show Ev _ _ _ _ (⟨[(13, iV z), (6, .p false [.mp 24]), (12, .p false [.rt 101])], [], [(101, 76, 3, ((outF c j).map markC))], [(24, mapF c)]⟩ : St)
 refine sq (sq (rg (xm rfl rfl (xb ttOk rfl rfl (nl (et (ev_cond rfl (fun h8 => ?_) (fun h8 => ?_))))))))
 try have d8 := of_decide_eq_true h8
 refine ev_skip (et (sq (ev_blk (sq (rg (xm rfl rfl (xm rfl rfl (xo (q_lookup_ok (us := [.int .i64 (findM c z).client, .int .i64 (findM c z).seq, .int .i64 (findM c z).index]) (kt := 2) (et := 76) kr ttOk rfl rfl rfl rfl rfl rfl (look_at c _) (look_some c _) (mark_one _)) rfl (xm rfl rfl (xo (q_ext rfl) rfl (xo (q_ext rfl) rfl (evl_e (e_alloc ttOk rfl rfl rfl rfl) (xst ttOk rfl rfl (xs rfl rfl (nl (et (sq (rg (xm rfl rfl (nl (et (ev_cond rfl (fun h9 => ?_) (fun h9 => ?_)))))))))))))))))))))))
 try have d9 := of_decide_eq_true h9
 have hol : (outF c j).length ≤ c.length := List.length_filter_le _ _
 refine rg (xm rfl rfl (xl ttOk rfl rfl (evl_e (e_lit ttOk rfl rfl rfl) (evl_e (e_app ttOk rfl rfl rfl rfl rfl rfl rfl (by simp; omega) rfl rfl) (xs rfl rfl (nl (eb (et (rg (xm rfl rfl (xa rfl rfl rfl om rfl (xs rfl rfl (nl (eve_round (j + 1, _) [(101, 96)] ?hp ⟨trf, trf, ⟨⟨_, rfl, by exact out_yes hsc q1 ‹_›⟩, trivial⟩, tre, rfl⟩))))))))))))))
 case hp => exact ⟨⟨by omega, by omega⟩, by omega⟩
 try have d9 := of_decide_eq_false h9
 refine ev_skip (eb (et (rg (xm rfl rfl (xa rfl rfl rfl om rfl (xs rfl rfl (nl (eve_round (j + 1, _) [(101, 101)] ?hp ⟨trf, trf, ⟨⟨_, rfl, by exact out_no hsc q1 ‹_›⟩, trivial⟩, tre, rfl⟩))))))))
 case hp => exact ⟨⟨by omega, by omega⟩, by omega⟩
 try have d8 := of_decide_eq_false h8
 refine ev_exit (evx_then (evx_then (evx_hit (et (sq (rg (xm rfl rfl (xs rfl rfl (xs rfl rfl (nl (et (ev_ret (ret_pureN ttOk rfl rfl ?_)))))))))))))
 rotate_left
 all_goals
  first
  | (rw [so1 ‹_›]; simp [RpLe, L2, RcLe]; done)
  | (rw [so2 ‹_› om]; simp [RpLe, L2, RcLe]; done)
  | (rw [so3 ‹_› (over_no om p1 (fresh_no1 ‹_›))]; simp [RpLe, L2, RcLe]; done)
  | (rw [so3 ‹_› (over_no om p1 (fresh_no4 ‹_›))]; simp [RpLe, L2, RcLe]; done)
  | (rw [so3 ‹_› (over_no om p1 (fresh_no3 ‹_›))]; simp [RpLe, L2, RcLe]; done)
  | (obtain rfl : j = 4 := by omega
     rw [so4 ‹_› om (over_end om p1), outF_all hsc]; simp [RpLe, L2, RcLe]; done)
def noEntry : Entry := ⟨0, 0, 0, 0, 0, 0, 0, 0, 0⟩
def atB (b : Book) (x : Int) : Entry := b.entries.getD (x - b.base - 1).toNat noEntry
def timeAtF (b : Book) (x : Int) : Int := if x = b.base then b.time else (atB b x).time
def entAtF (b : Book) (x : Int) : Entry × Bool := if bookOk b && inB x (b.base + 1) (lastB b) then (atB b x, true) else (noEntry, false)
theorem atB_eq {b : Book} {x : Int} {m : Nat} (h : x - b.base - 1 = (m : Int)) (hm : m < b.entries.length) : atB b x = b.entries[m] := by
 unfold atB
 rw [h, Int.toNat_natCast, List.getD_eq_getElem?_getD, List.getElem?_eq_getElem hm]
 rfl
theorem at_get {b : Book} {x : Int} (h1 : b.base < x) (h2 : x ≤ lastB b) : ∃ m : Nat, x - b.base - 1 = (m : Int) ∧ m < b.entries.length := by
 unfold lastB at h2
 exact ⟨(x - b.base - 1).toNat, by omega, by omega⟩
theorem ent_yes {b : Book} {x : Int} {m : Nat} (h : bookOk b = true) (h2 : inB x (b.base + 1) (lastB b) = true) (h3 : x - b.base - 1 = (m : Int)) (hm : m < b.entries.length) : entAtF b x = (b.entries[m], true) := by simp [entAtF, h, h2, atB_eq h3 hm]
def nextF (n : LogN) (x : Int) : Head := ⟨n.head.num + 1, x, timeAtF n.book x, (seenOverF n.head.seen (partF n.book (n.book.base + 1) x)).1⟩
def owesF (n : LogN) : Bool := eqN Ack.nums n.owe ((partF n.book (n.durable + 1) 2000).map ackF)
def frontF (n : LogN) : Bool := keptOk n.two && (headOk n.head && (bookOk n.book && (decide (n.book.base = n.head.base) && decide (n.book.time = n.head.time))))
def midF (n : LogN) : Bool := (seenOverF n.head.seen n.book.entries).2 && (eqN Mark.nums (seenOverF n.head.seen n.book.entries).1 n.seen && inB n.durable n.book.base (lastB n.book))
def logOkF (n : LogN) : Bool := frontF n && (midF n && (owesF n && (if n.more then inB n.next.base (n.head.base + 1) n.durable && eqHd n.next (nextF n n.next.base) else eqHd n.next noHead)))
def nextOkF (n : LogN) : Bool := if n.more then headOk n.next && (decide (n.next.num = n.head.num + 1) && (decide (n.head.base < n.next.base) && (decide (n.next.base ≤ n.durable) && (decide (n.next.time = (entAtF n.book n.next.base).1.time) && eqN Mark.nums n.next.seen (seenOverF n.head.seen (n.book.entries.take (n.next.base - n.book.base).toNat)).1)))) else eqHd n.next noHead
theorem head_bd {h : Head} (hh : headOk h = true) : 0 ≤ h.base ∧ h.base ≤ 2000 ∧ 0 ≤ h.num ∧ h.num ≤ h.base ∧ seenOk h.seen = true := by
 simp only [headOk, inB, Bool.and_eq_true, decide_eq_true_eq] at hh
 exact ⟨hh.1.1, hh.1.2, hh.2.1.1, hh.2.1.2, hh.2.2.2.2.1⟩
theorem ents_ok {l : List Entry} (h : entriesOk l = true) : ∀ e ∈ l, entryOk e = true := fun e he => by
 obtain ⟨k, hk, rfl⟩ := List.mem_iff_getElem.1 he
 have := (entriesOk_iff.1 h).2 k hk
 rw [entStep_at hk] at this
 simp only [Bool.and_eq_true] at this
 exact this.1
theorem book_first {b : Book} (hb : bookOk b = true) (h : 0 < b.entries.length) : b.entries[0].index = b.base + 1 := by
 simp only [bookOk, Bool.and_eq_true] at hb
 have h6 := hb.2.2.2.2.2
 revert h6 h
 cases b.entries with
 | nil => intro h; simp at h
 | cons e es =>
  intro h h6
  simp only [Bool.and_eq_true, decide_eq_true_eq] at h6
  exact h6.1
theorem ent_ix {b : Book} (hb : bookOk b = true) : ∀ j (hj : j < b.entries.length), b.entries[j].index = b.base + 1 + j
 | 0, hj => by rw [book_first hb hj]; simp
 | j + 1, hj => by
  have h1 := (entriesOk_iff.1 (book_bd hb).2.2.2.2).2 (j + 1) hj
  rw [entStep_at hj, entOver_at hj om] at h1
  simp only [Bool.and_eq_true, decide_eq_true_eq] at h1
  have h2 := ent_ix hb j om
  have h3 : b.entries[j + 1].index = b.entries[j].index + 1 := h1.2.1
  rw [h3, h2]
  omega
theorem filt_run : ∀ (l : List Entry) (a c x : Int), a ≤ c → (∀ j (hj : j < l.length), l[j].index = c + j) → l.filter (fun e => inB e.index a x) = l.take (x - c + 1).toNat
 | [], a, c, x, _, _ => by simp
 | e :: t, a, c, x, ha, h => by
  have h0 : e.index = c := by have := h 0 (by simp); simpa using this
  have ih := filt_run t a (c + 1) x om fun j hj => by
   have := h (j + 1) (by simpa using hj)
   simp only [List.getElem_cons_succ] at this
   rw [this]; omega
  by_cases hx : c ≤ x
  ·rw [List.filter_cons_of_pos (by simp [inB, h0, ha, hx]), ih, show (x - c + 1).toNat = (x - (c + 1) + 1).toNat + 1 by omega, List.take_succ_cons]
  ·rw [List.filter_cons_of_neg (by simp [inB, h0, hx]), ih, show (x - c + 1).toNat = 0 by omega, show (x - (c + 1) + 1).toNat = 0 by omega]
   simp
theorem part_take {b : Book} (hb : bookOk b = true) (x : Int) : partF b (b.base + 1) x = b.entries.take (x - b.base).toNat := by
 unfold partF
 rw [filt_run b.entries (b.base + 1) (b.base + 1) x (Int.le_refl _) (ent_ix hb), show (x - (b.base + 1) + 1).toNat = (x - b.base).toNat by omega]
theorem over_prefix {l c : List Mark} {es : List Entry} (h : overL l es = some c) (m : Nat) : ∃ c', overL l (es.take m) = some c' := by
 cases h1 : overL l (es.take m) with
 | some c' => exact ⟨c', rfl⟩
 | none =>
  have := overL_none (es := es.drop m) h1
  rw [List.take_append_drop, h] at this
  cases this
theorem over_last {l c : List Mark} {es : List Entry} {m : Nat} (hs : SOk l) (hm : m < es.length) (h : overL l (es.take (m + 1)) = some c) : lastF c = es[m].index := by
 rw [List.take_succ_eq_append_getElem hm, overL_snoc] at h
 cases h1 : overL l (es.take m) with
 | none => rw [h1] at h; cases h
 | some c' =>
  rw [h1] at h
  simp only [Option.bind_some] at h
  split at h
  ·rename_i hf
   cases h
   exact (fresh_ok (over_sok hs h1) hf).2
  ·cases h
theorem so_some {l : List Mark} {es : List Entry} (h : (seenOverF l es).2 = true) : ∃ c, overL l es = some c := by
 unfold seenOverF at h
 split at h
 ·split at h
  ·split at h
   ·rename_i c hc; exact ⟨c, hc⟩
   ·cases h
  ·cases h
 ·cases h
theorem marks_eq {l m : List Mark} (h : eqN Mark.nums l m = true) : l = m := by
 have h1 : l.map Mark.nums = m.map Mark.nums := of_decide_eq_true h
 have key : ∀ {l m : List Mark}, l.map Mark.nums = m.map Mark.nums → l = m := by
  intro l
  induction l with
  | nil => intro m h; cases m with
   | nil => rfl
   | cons _ _ => simp at h
  | cons a l ih =>
   intro m h
   cases m with
   | nil => simp at h
   | cons b m =>
    simp only [List.map_cons, List.cons.injEq] at h
    rw [Mark.ext' h.1, ih h.2]
 exact key h1
theorem next_same {n : LogN} (hf : frontF n = true) (hm : midF n = true) (hmo : n.more = true) : (inB n.next.base (n.head.base + 1) n.durable && eqHd n.next (nextF n n.next.base)) = nextOkF n := by
 simp only [frontF, Bool.and_eq_true, decide_eq_true_eq] at hf
 simp only [midF, Bool.and_eq_true] at hm
 obtain ⟨_, hh, hb, he, _⟩ := hf
 obtain ⟨hso, _, hd⟩ := hm
 have hhd := head_bd hh
 have hbd := book_bd hb
 have hdd := inB_iff.1 hd
 by_cases hx : n.head.base < n.next.base ∧ n.next.base ≤ n.durable
 ·obtain ⟨m, hm1, hm2⟩ := at_get (b := n.book) (x := n.next.base) om om
  have hs := sok_of hhd.2.2.2.2
  obtain ⟨c, hc⟩ := so_some hso
  have htk : (n.next.base - n.book.base).toNat = m + 1 := by omega
  obtain ⟨c', hc'⟩ := over_prefix hc (m + 1)
  have hSO : seenOverF n.head.seen (n.book.entries.take (m + 1)) = (c', true) := so4 hhd.2.2.2.2 (by rw [List.length_take]; omega) hc'
  have hin : inB n.next.base (n.book.base + 1) (lastB n.book) = true := inB_iff.2 ⟨by omega, by omega⟩
  have hent : entAtF n.book n.next.base = (n.book.entries[m], true) := ent_yes hb hin hm1 hm2
  have htime : timeAtF n.book n.next.base = n.book.entries[m].time := by
   unfold timeAtF
   rw [if_neg om, atB_eq hm1 hm2]
  have hin2 : inB n.next.base (n.head.base + 1) n.durable = true := inB_iff.2 ⟨by omega, by omega⟩
  have hix := ent_ix hb m hm2
  have heo := ents_ok hbd.2.2.2.2 _ (List.getElem_mem hm2)
  have hix2 := entry_ix heo
  simp only [nextOkF, hmo, if_true, hin2, Bool.true_and, eqHd, nextF, part_take hb, htk, hSO, hent, htime, hx.1, hx.2, decide_true]
  by_cases h1 : n.next.num = n.head.num + 1
  ·by_cases h2 : n.next.time = n.book.entries[m].time
   ·cases h3 : eqN Mark.nums n.next.seen c'
    ·simp
    ·have h4 := marks_eq h3
     have h5 : headOk n.next = true := by
      have hto : timeOk n.book.entries[m].time = true := by
       simp only [entryOk, Bool.and_eq_true] at heo
       exact heo.2.1
      have hla := over_last hs hm2 hc'
      have hsc := of_sok (over_sok hs hc')
      have k1 : inB n.next.base 0 2000 = true := inB_iff.2 ⟨by omega, by omega⟩
      have k2 : inB n.next.num 0 n.next.base = true := inB_iff.2 ⟨by omega, by omega⟩
      have k3 : n.next.base > 0 := by omega
      have k4 : lastF n.next.seen = n.next.base := by rw [h4, hla, hix]; omega
      simp only [headOk, k1, k2, k3, k4, h2, hto, h4, hsc]
      rw [← h4, k4]
      simp
     simp [h1, h2, h5]
   ·simp [h2]
  ·simp [h1]
 ·have hA : inB n.next.base (n.head.base + 1) n.durable = false := by
   cases h9 : inB n.next.base (n.head.base + 1) n.durable with
   | false => rfl
   | true => have := inB_iff.1 h9; omega
  rw [hA, Bool.false_and]
  simp only [nextOkF, hmo, if_true]
  by_cases h1 : n.head.base < n.next.base
  ·have h2 : ¬ n.next.base ≤ n.durable := fun h => hx ⟨h1, h⟩
   simp [h2]
  ·simp [h1]
theorem log_facts {n : LogN} (h : logOkF n = true) : bookOk n.book = true ∧ inB n.durable n.book.base (lastB n.book) = true := by
 simp only [logOkF, frontF, midF, Bool.and_eq_true] at h
 exact ⟨h.1.2.2.1, h.2.1.2.2⟩
theorem ents_take {l : List Entry} (h : entriesOk l = true) (m : Nat) : entriesOk (l.take m) = true := by
 obtain ⟨h1, h2⟩ := entriesOk_iff.1 h
 refine entriesOk_iff.2 ⟨by rw [List.length_take]; omega, fun k hk => ?_⟩
 have hk1 : k < l.length := by rw [List.length_take] at hk; omega
 have hkm : k < m := by rw [List.length_take] at hk; omega
 have h3 := h2 k hk1
 rw [entStep_at hk1] at h3
 rw [entStep_at hk]
 cases k with
 | zero => simpa [entOver] using h3
 | succ j =>
  rw [entOver_at hk1 om] at h3
  rw [entOver_at hk om]
  simpa [List.getElem_take] using h3
theorem book_take {b : Book} (h : bookOk b = true) (m : Nat) : bookOk ⟨b.base, b.time, b.entries.take m⟩ = true := by
 have hbd := book_bd h
 have h9 := h
 simp only [bookOk, Bool.and_eq_true] at h9 ⊢
 refine ⟨h9.1, h9.2.1, h9.2.2.1, by rw [List.length_take]; simp; omega, ents_take hbd.2.2.2.2 m, ?_⟩
 have h6 := h9.2.2.2.2.2
 revert h6
 cases b.entries with
 | nil => intro _; simp
 | cons e es =>
  intro h6
  cases m with
  | zero => simp
  | succ m => simpa using h6
def pk (F : List Int) (i : Nat) : Nat → List Int
 | 0 => []
 | k + 1 => pk F i k ++ [F.getD (i + 2 * k) 0]
theorem pk_len (F : List Int) (i : Nat) : ∀ k, (pk F i k).length = k
 | 0 => rfl
 | k + 1 => by simp [pk, pk_len F i k]
theorem pk_at (F : List Int) (i : Nat) : ∀ m k, k < m → (pk F i m).getD k 0 = F.getD (i + 2 * k) 0
 | 0, k, h => by omega
 | m + 1, k, h => by
  have hl := pk_len F i m
  simp only [pk, List.getD_eq_getElem?_getD]
  rcases Nat.lt_or_ge k m with h1 | h1
  ·rw [List.getElem?_append_left om]
   have := pk_at F i m k h1
   simpa only [List.getD_eq_getElem?_getD] using this
  ·have : k = m := by omega
   subst this
   rw [List.getElem?_append_right om, hl]
   simp
theorem fate_pk {F : List Int} {i m k : Nat} (h : k < m ∨ F.length ≤ i + 2 * k) : fateAt (pk F i m) k = F.getD (i + 2 * k) 0 := by
 unfold fateAt
 rcases Nat.lt_or_ge k m with h1 | h1
 ·exact pk_at F i m k h1
 ·have h2 : F.length ≤ i + 2 * k := by omega
  simp only [List.getD_eq_getElem?_getD]
  rw [List.getElem?_eq_none (by rw [pk_len]; omega), List.getElem?_eq_none h2]
theorem fallUp_congr {d : Disk} {F G : List Int} {all : Bool} : ∀ k, (∀ j, j < k → fateAt F j = fateAt G j) → fallUp d F all k = fallUp d G all k
 | 0, _ => rfl
 | k + 1, h => by
  simp only [fallUp]
  rw [fallUp_congr k fun j hj => h j om, h k om]
theorem fallF_congr {d : Disk} {F G : List Int} {all : Bool} (h : ∀ j, j < 60 → fateAt F j = fateAt G j) : fallF d F all = fallF d G all := by
 cases hd : diskOk d
 ·rw [fall_no hd, fall_no hd]
 ·rw [fall_yes hd, fall_yes hd, fallUp_congr]
  intro j hj
  exact h j (by have := (diskOk_sizes hd).2.1; omega)
def halfN (F : List Int) (i : Nat) : Nat := (F.length + 1 - i) / 2
def half (F : List Int) (i : Nat) : List Int := pk F i (halfN F i)
def half60 (F : List Int) (i : Nat) : List Int := pk F i (min 60 (halfN F i))
theorem half_fall {d : Disk} {F : List Int} {i : Nat} : fallF d (half60 F i) false = fallF d (half F i) false := by
 refine fallF_congr fun j hj => ?_
 unfold half60 half halfN
 rw [fate_pk om, fate_pk om]
theorem pk_snoc {F : List Int} {i k m : Nat} (h : m = i + 2 * k) (hm : m < F.length) : pk F i k ++ [F[m]] = pk F i (k + 1) := by
 subst h
 simp only [pk]
 rw [List.getD_eq_getElem?_getD, List.getElem?_eq_getElem hm]
 rfl
def bothFallenF (t : Two) (F : List Int) : Two := if twoOk t then ⟨fallF t.a (half F 0) false, fallF t.b (half F 1) false⟩ else zeroT
theorem bf_no {t : Two} {F : List Int} (h : twoOk t = false) : bothFallenF t F = zeroT := by simp [bothFallenF, h]
theorem bf_yes {t : Two} {F : List Int} (h : twoOk t = true) : bothFallenF t F = ⟨fallF t.a (half F 0) false, fallF t.b (half F 1) false⟩ := by simp [bothFallenF, h]
theorem bf_yes60 {t : Two} {F : List Int} (h : twoOk t = true) : bothFallenF t F = ⟨fallF t.a (half60 F 0) false, fallF t.b (half60 F 1) false⟩ := by rw [bf_yes h, half_fall, half_fall]
def zeroL : LogN := ⟨zeroT, noHead, noHead, false, ⟨0, 0, []⟩, [], 0, []⟩
def fallenLogF (n : LogN) (F : List Int) : LogN := if logOkF n then ⟨bothFallenF n.two F, noHead, noHead, false, ⟨0, 0, []⟩, [], 0, []⟩ else zeroL
theorem fl_yes {n : LogN} {F : List Int} (h : logOkF n = true) : fallenLogF n F = ⟨bothFallenF n.two F, noHead, noHead, false, ⟨0, 0, []⟩, [], 0, []⟩ := by simp [fallenLogF, h]
theorem c_l4Fates (F : List Int) (x : Int) (f : Nat) (hx : x = f) (hi : f ≤ 1) (hF : F.length ≤ 1048576) : Pure Tryz.prog 138 [one (ints F), one (iC x)] [one' (intsR 2 (half60 F f))] := by
 refine pure_intro (N := 28) Tryz.func138 rfl rfl rfl rfl (fun H w => ?_)
 refine ev_lenm (t := 0) rfl (fun hL => ?_)
 refine sq (rg (xs rfl rfl (nl (et (sq (rg (evl_e (e_lit ttOk rfl rfl rfl) (xs rfl rfl (nl (et (sq (sq (rg (xm rfl rfl (xs rfl rfl (nl (et (ev_blk (ev_loop (fun i : Nat × Int => (⟨[(6, iV i.2), (0, cV (ints F)), (5, .p false [.rt 101])], [], [(101, 2, 1, ((pk F f i.1).map fun x => [iC x]))], []⟩ : St)) (fun i => i.1 ≤ halfN F f ∧ i.1 ≤ 60 ∧ i.2 = x + 2 * i.1) (fun i => 60 - i.1) (0, x) [(101, 7)] (⟨by omega, by omega, by omega⟩) ⟨trf, trf, ⟨⟨_, rfl, by rfl⟩, trivial⟩, tre, rfl⟩ ?_)))))))))))))))))))
 intro i hp
 obtain ⟨k, z⟩ := i
 have hp : k ≤ halfN F f ∧ k ≤ 60 ∧ z = x + 2 * k := hp
 obtain ⟨p0, p1, p2⟩ := hp
 show Ev _ _ _ _ (⟨[(6, iV z), (0, cV (ints F)), (5, .p false [.rt 101])], [], [(101, 2, 1, ((pk F f k).map fun x => [iC x]))], []⟩ : St)
 have hpl := pk_len F f k
 refine sq (sq (rg (xm rfl rfl (xm rfl rfl (xo (q_len_map ttOk rfl rfl) rfl (xb ttOk rfl rfl (xm rfl rfl (evl_part rfl rfl (fun h1 => ?_) (fun h1 => ?_)))))))))
 ·try have d1 := of_decide_eq_true h1
  refine gm h1 rfl rfl rfl rfl (go h1 rfl rfl (q_len_rtm ttOk rfl rfl rfl) rfl (go h1 rfl rfl (q_bin ttOk rfl) rfl (xo (q_pick_t rfl h1 rfl) rfl (nl (et (ev_cond rfl (fun h2 => ?_) (fun h2 => ?_)))))))
  ·try have d2 := of_decide_eq_true h2
   refine ev_skip (et (sq (ev_blk (rg (xm rfl rfl (xm rfl rfl (xm rfl rfl (xo (q_ix_map (m := f + 2 * k) ttOk rfl rfl rfl om om) rfl (xl ttOk rfl rfl (evl_e (e_lit ttOk rfl rfl rfl) (evl_e (e_app ttOk rfl rfl rfl rfl rfl rfl rfl (by simp; omega) rfl rfl) (xs rfl rfl (nl (eb (et (rg (xm rfl rfl (xa rfl rfl rfl om rfl (xs rfl rfl (nl (eve_round (k + 1, _) [(101, 26)] ?hp ⟨trf, trf, ⟨⟨_, rfl, by rw [← pk_snoc (F := F) (i := f) (k := k) rfl om]; simp⟩, trivial⟩, tre, rfl⟩)))))))))))))))))))))
   case hp => exact ⟨⟨by unfold halfN at *; omega, by omega, by omega⟩, by omega⟩
  ·try have d2 := of_decide_eq_false h2
   refine ev_exit (evx_then (evx_then (evx_hit (et (sq (rg (xm rfl rfl (xs rfl rfl (nl (et (ev_ret (ret_pure' ttOk rfl rfl ?_))))))))))))
   rw [show half60 F f = pk F f k by unfold half60; rw [show min 60 (halfN F f) = k by unfold halfN at *; omega]]
 ·try have d1 := of_decide_eq_false h1
  refine gn h1 rfl rfl rfl (gn h1 rfl rfl rfl (gn h1 rfl rfl rfl (xo (q_pick_f rfl h1 rfl) rfl (nl (et (ev_cond_kf rfl rfl (ev_exit (evx_then (evx_then (evx_hit (et (sq (rg (xm rfl rfl (xs rfl rfl (nl (et (ev_ret (ret_pure' ttOk rfl rfl ?_)))))))))))))))))))
  rw [show half60 F f = pk F f k by unfold half60; rw [show min 60 (halfN F f) = k by unfold halfN at *; omega]]
theorem c_BothFallen (t : Two) (F : List Int) (hF : F.length ≤ 1048576) : Pure Tryz.prog 110 [many (twoC t), one (ints F)] [many' (twoR (bothFallenF t F))] := by
 refine pure_intro (N := 20) Tryz.func110 rfl rfl rfl rfl (fun H w => ?_)
 refine sq (rg (evl_e (e_box rfl rfl rfl rfl) (evl_e (e_alloc ttOk rfl rfl rfl rfl) (nl (et (sq (sq (rg (xl ttOk rfl rfl (evl_call (nm := 6) (cf rfl) (c_TwoOk t) (rs_of rfl) rfl rfl rfl (xo (q_not rfl) rfl (nl (et (ev_cond_n rfl (fun h1 => ?_) (fun h1 => ?_)))))))))))))))
 ·refine sq (rg (xo (q_build ttOk rfl) rfl (xst ttOk rfl rfl (nl (et (ev_ret (evr_then (ret_pureN ttOk rfl rfl ?_))))))))
  first
  | (rw [bf_no ‹_›]; simp [RpLe, L2, RcLe, zeroD, zeroT]; done)
  | (rw [bf_yes60 ‹_›]; simp [RpLe, L2, RcLe]; done)
  | (rw [bf_yes ‹_›]; simp [RpLe, L2, RcLe, half, halfN]; done)
 ·refine ev_skip (et (sq (ev_drawq [11] mo (rk0 0 rfl (q_fieldAddr ttOk rfl) rfl (rk0 1 rfl (q_load ttOk rfl) rfl (rk0 2 rfl (q_move rfl) rfl (rk0 5 rfl (q_fieldAddr ttOk rfl) rfl (rk0 6 rfl (q_load ttOk rfl) rfl (rk0 7 rfl (q_move rfl) rfl (rdk_one 3 kr ?_))))))))))
  first | refine rdo_call (nm := 12) rfl trivial (cf rfl) (c_l4Fates F 0 0 rfl om hF) (rs_of rfl) rfl rfl rfl ?_ | refine rdo_call (nm := 12) rfl trivial (cf rfl) (c_l4Fates F 1 1 rfl om hF) (rs_of rfl) rfl rfl rfl ?_
  refine rdk_one 4 kr ?_
  first | refine rdo_call (nm := 13) rfl trivial (cf rfl) (c_Fallen t.a (half60 F 0)) (rs_of rfl) rfl rfl rfl ?_ | refine rdo_call (nm := 13) rfl trivial (cf rfl) (c_Fallen t.b (half60 F 1)) (rs_of rfl) rfl rfl rfl ?_
  refine rdk_one 8 kr ?_
  first | refine rdo_call (nm := 17) rfl trivial (cf rfl) (c_l4Fates F 0 0 rfl om hF) (rs_of rfl) rfl rfl rfl ?_ | refine rdo_call (nm := 17) rfl trivial (cf rfl) (c_l4Fates F 1 1 rfl om hF) (rs_of rfl) rfl rfl rfl ?_
  refine rdk_one 9 kr ?_
  first | refine rdo_call (nm := 18) rfl trivial (cf rfl) (c_Fallen t.a (half60 F 0)) (rs_of rfl) rfl rfl rfl ?_ | refine rdo_call (nm := 18) rfl trivial (cf rfl) (c_Fallen t.b (half60 F 1)) (rs_of rfl) rfl rfl rfl ?_
  refine rk0 10 rfl (q_build ttOk rfl) rfl (rdk_one 11 kr (rdo_brk rfl rfl trivial (e_store ttOk rfl) (rdb_endq kr (et (ev_ret (ret_pureN ttOk rfl rfl ?_))))))
  first
  | (rw [bf_no ‹_›]; simp [RpLe, L2, RcLe, zeroD, zeroT]; done)
  | (rw [bf_yes60 ‹_›]; simp [RpLe, L2, RcLe]; done)
  | (rw [bf_yes ‹_›]; simp [RpLe, L2, RcLe, half, halfN]; done)
theorem c_BothFallen' (t : Two) (F : List Int) (hF : F.length ≤ 1048576) : Pure Tryz.prog 9 [many (twoC t), one (ints F)] [many' (twoR (bothFallenF t F))] := by
 refine pure_intro (N := 51) Tryz.func9 rfl rfl rfl rfl (fun H w => ?_)
 refine ev_lenm (t := 1) rfl (fun hL => ?_)
 refine sq (rg (evl_e (e_box rfl rfl rfl rfl) (evl_e (e_alloc ttOk rfl rfl rfl rfl) (nl (et (sq (sq (rg (xl ttOk rfl rfl (evl_call (nm := 12) (cf rfl) (c_TwoOk' t) (rs_of rfl) rfl rfl rfl (xo (q_not rfl) rfl (nl (et (ev_cond_n rfl (fun h1 => ?_) (fun h1 => ?_)))))))))))))))
 ·try have d1 := of_decide_eq_false h1
  refine sq (rg (xo (q_build ttOk rfl) rfl (xst ttOk rfl rfl (nl (et (ev_ret (evr_then (ret_pureN ttOk rfl rfl ?_))))))))
  first
  | (rw [bf_no ‹_›]; simp [RpLe, L2, RcLe, zeroD, zeroT]; done)
  | (rw [bf_yes60 ‹_›]; simp [RpLe, L2, RcLe]; done)
  | (rw [bf_yes ‹_›]; simp [RpLe, L2, RcLe, half, halfN]; done)
 ·try have d1 := of_decide_eq_true h1
  refine ev_skip (et (sq (rg (xo (q_build ttOk rfl) rfl (evl_e (e_alloc ttOk rfl rfl rfl rfl) (xst ttOk rfl rfl (nl (et (sq (sq (ev_adopt (b := 5) 0 101 2 1 rfl rfl rfl rfl rfl (ev_adopt (b := 5) 1 102 2 1 rfl rfl rfl rfl rfl (rg (xm rfl rfl (xo (q_len_map ttOk rfl rfl) rfl (xm rfl rfl (nl (et (ev_blk (ev_loop (fun k : Nat => (⟨[(18, iV k), (16, cV (ints F)), (17, iV F.length), (5, pbV 5 0), (2, pbV 2 0), (4, pbV 4 0)], [(5, 68, [.rt 101, .rt 102]), (4, 32, [.c .nil, .c .nil, .c .nil, .c .nil]), (2, 32, [.c (rows t.a.kept), .c (writes t.a.wait), .c (rows t.b.kept), .c (writes t.b.wait)])], [(101, 2, 1, ((pk F 0 ((k + 1) / 2)).map fun x => [iC x])), (102, 2, 1, ((pk F 1 (k / 2)).map fun x => [iC x]))], []⟩ : St)) (fun k => k ≤ F.length) (fun k => F.length - k) 0 [] (by simp) ⟨trf, trf, ⟨⟨_, rfl, by rfl⟩, ⟨_, rfl, by rfl⟩, trivial⟩, tre, rfl⟩ ?_))))))))))))))))))))
  intro k hp
  have p0 := hp
  show Ev _ _ _ _ (⟨[(18, iV k), (16, cV (ints F)), (17, iV F.length), (5, pbV 5 0), (2, pbV 2 0), (4, pbV 4 0)], [(5, 68, [.rt 101, .rt 102]), (4, 32, [.c .nil, .c .nil, .c .nil, .c .nil]), (2, 32, [.c (rows t.a.kept), .c (writes t.a.wait), .c (rows t.b.kept), .c (writes t.b.wait)])], [(101, 2, 1, ((pk F 0 ((k + 1) / 2)).map fun x => [iC x])), (102, 2, 1, ((pk F 1 (k / 2)).map fun x => [iC x]))], []⟩ : St)
  have hpl0 := pk_len F 0 ((k + 1) / 2)
  have hpl1 := pk_len F 1 (k / 2)
  refine sq (rg (xb ttOk rfl rfl (nl (et (sq (ev_cond rfl (fun h2 => ?_) (fun h2 => ?_)))))))
  ·try have d2 := of_decide_eq_true h2
   refine ev_skip (et (sq (ev_blk (sq (rg (xm rfl rfl (xo (q_ix_map ttOk rfl rfl rfl rfl om) rfl (xl ttOk rfl rfl (xs rfl rfl (xs rfl rfl (nl (et ?_))))))))))))
   rcases Nat.mod_two_eq_zero_or_one k with hpar | hpar
   ·refine rg (xm rfl rfl ?_)
    first | refine xo (q_rem_pos rfl rfl om) rfl ?_ | refine xo (q_rem rfl rfl om) rfl ?_
    refine xm rfl rfl ?_
    first | refine xo (q_rem_pos rfl rfl om) rfl ?_ | refine xo (q_rem rfl rfl om) rfl ?_
    first | refine xo (q_ix_arr 0 ttOk rfl rfl om) rfl ?_ | refine xo (q_ix_arr 1 ttOk rfl rfl om) rfl ?_
    refine xl ttOk rfl rfl (xm rfl rfl (evl_e (e_lit ttOk rfl rfl rfl) (evl_e (e_app ttOk rfl rfl rfl rfl rfl rfl rfl (by simp; omega) rfl rfl) ?_)))
    first | refine xo (q_ix_arr 0 ttOk rfl rfl om) rfl ?_ | refine xo (q_ix_arr 1 ttOk rfl rfl om) rfl ?_
    refine xst ttOk rfl rfl (nl (eb (et (rg (xa rfl rfl rfl om rfl (xm rfl rfl (nl (eve_round (k + 1) [(101, 31)] ?hp ⟨trf, trf, ⟨⟨_, rfl, by rw [show (k + 1 + 1) / 2 = (k + 1) / 2 + 1 by omega, ← pk_snoc (m := k) om om]; simp⟩, ⟨_, rfl, by rw [show (k + 1) / 2 = k / 2 by omega]⟩, trivial⟩, tre, rfl⟩))))))))
    case hp => exact ⟨by omega, by omega⟩
   ·refine rg (xm rfl rfl ?_)
    first | refine xo (q_rem_pos rfl rfl om) rfl ?_ | refine xo (q_rem rfl rfl om) rfl ?_
    refine xm rfl rfl ?_
    first | refine xo (q_rem_pos rfl rfl om) rfl ?_ | refine xo (q_rem rfl rfl om) rfl ?_
    first | refine xo (q_ix_arr 0 ttOk rfl rfl om) rfl ?_ | refine xo (q_ix_arr 1 ttOk rfl rfl om) rfl ?_
    refine xl ttOk rfl rfl (xm rfl rfl (evl_e (e_lit ttOk rfl rfl rfl) (evl_e (e_app ttOk rfl rfl rfl rfl rfl rfl rfl (by simp; omega) rfl rfl) ?_)))
    first | refine xo (q_ix_arr 0 ttOk rfl rfl om) rfl ?_ | refine xo (q_ix_arr 1 ttOk rfl rfl om) rfl ?_
    refine xst ttOk rfl rfl (nl (eb (et (rg (xa rfl rfl rfl om rfl (xm rfl rfl (nl (eve_round (k + 1) [(102, 31)] ?hp ⟨trf, trf, ⟨⟨_, rfl, by rw [show (k + 1 + 1) / 2 = (k + 1) / 2 by omega]⟩, ⟨_, rfl, by rw [show (k + 1) / 2 = k / 2 + 1 by omega, ← pk_snoc (m := k) om om]; simp⟩, trivial⟩, tre, rfl⟩))))))))
    case hp => exact ⟨by omega, by omega⟩
  ·try have d2 := of_decide_eq_false h2
   refine ev_exit (evx_then (evx_then (evx_hit (et (sq ?_)))))
   obtain rfl : k = F.length := by omega
   refine rg (xl ttOk rfl rfl (evl_callv (cf rfl) hands_disks rfl rfl rfl rfl (evl_e (e_alloc ttOk rfl rfl rfl rfl) (xst ttOk rfl rfl (nl (et (sq (sq (rg (xl ttOk rfl rfl (xm rfl rfl (nl (et (ev_blk (ev_rounds 2 (sq (rg (xb ttOk rfl rfl (nl (et (sq (ev_cond_kt rfl (by first | rfl | assumption | exact nt ‹_› | exact nf ‹_›) (ev_skip (et (sq (ev_blk (sq (rg (xm rfl rfl ?_)))))))))))))))))))))))))))))
   first | refine xo (q_index 0 ttOk rfl rfl om) rfl ?_ | refine xo (q_index 1 ttOk rfl rfl om) rfl ?_
   refine evl_e (e_alloc ttOk rfl rfl rfl rfl) (xs rfl rfl (xst ttOk rfl rfl (nl (et (ev_drawq [7] mo (rk0 0 rfl (q_move rfl) rfl (rk0 1 rfl (q_load ttOk rfl) rfl (rk0 2 rfl (q_move rfl) rfl ?_))))))))
   first | refine rk0 3 rfl (q_ix_arr 0 ttOk rfl rfl om) rfl ?_ | refine rk0 3 rfl (q_ix_arr 1 ttOk rfl rfl om) rfl ?_
   refine rk0 4 rfl (q_load ttOk rfl) rfl (rdk_one 5 kr ?_)
   first | refine rdo_call (nm := 46) rfl trivial (cf rfl) (c_Fallen' t.a (pk F 0 ((F.length + 1) / 2))) (rs_of rfl) rfl rfl rfl ?_ | refine rdo_call (nm := 46) rfl trivial (cf rfl) (c_Fallen' t.b (pk F 1 (F.length / 2))) (rs_of rfl) rfl rfl rfl ?_
   first | refine rk0 6 rfl (q_ix_arr 0 ttOk rfl rfl om) rfl ?_ | refine rk0 6 rfl (q_ix_arr 1 ttOk rfl rfl om) rfl ?_
   refine rdk_one 7 kr (rdo_brk rfl rfl trivial (e_store ttOk rfl) (rdb_endq kr (eb (et (rg (xa rfl rfl rfl om rfl (xm rfl rfl (nl (eve_again (ev_pr [2, 4, 5, 8, 36, 37] rfl (ev_remB [10] rfl (sq (rg (xb ttOk rfl rfl (nl (et (sq (ev_cond_kt rfl (by first | rfl | assumption | exact nt ‹_› | exact nf ‹_›) (ev_skip (et (sq (ev_blk (sq (rg (xm rfl rfl ?_)))))))))))))))))))))))))
   first | refine xo (q_index 0 ttOk rfl rfl om) rfl ?_ | refine xo (q_index 1 ttOk rfl rfl om) rfl ?_
   refine evl_e (e_alloc ttOk rfl rfl rfl rfl) (xs rfl rfl (xst ttOk rfl rfl (nl (et (ev_drawq [7] mo (rk0 0 rfl (q_move rfl) rfl (rk0 1 rfl (q_load ttOk rfl) rfl (rk0 2 rfl (q_move rfl) rfl ?_))))))))
   first | refine rk0 3 rfl (q_ix_arr 0 ttOk rfl rfl om) rfl ?_ | refine rk0 3 rfl (q_ix_arr 1 ttOk rfl rfl om) rfl ?_
   refine rk0 4 rfl (q_load ttOk rfl) rfl (rdk_one 5 kr ?_)
   first | refine rdo_call (nm := 1000046) rfl trivial (cf rfl) (c_Fallen' t.a (pk F 0 ((F.length + 1) / 2))) (rs_of rfl) rfl rfl rfl ?_ | refine rdo_call (nm := 1000046) rfl trivial (cf rfl) (c_Fallen' t.b (pk F 1 (F.length / 2))) (rs_of rfl) rfl rfl rfl ?_
   first | refine rk0 6 rfl (q_ix_arr 0 ttOk rfl rfl om) rfl ?_ | refine rk0 6 rfl (q_ix_arr 1 ttOk rfl rfl om) rfl ?_
   refine rdk_one 7 kr (rdo_brk rfl rfl trivial (e_store ttOk rfl) (rdb_endq kr (eb (et (rg (xa rfl rfl rfl om rfl (xm rfl rfl (nl (eve_again (ev_pr [2, 4, 5, 8, 36, 37] rfl (ev_remB [10] rfl (sq (rg (xb ttOk rfl rfl (nl (et (sq (ev_cond_kf rfl (by first | rfl | assumption | exact nt ‹_› | exact nf ‹_›) (ev_exit (evx_then (evx_then (evx_hit (et (sq (rg (xl ttOk rfl rfl (evl_callv (cf rfl) hands_twoOf rfl rfl rfl rfl (xst ttOk rfl rfl (nl (et (ev_ret (ret_pureN ttOk rfl rfl ?_))))))))))))))))))))))))))))))))
   first
   | (rw [bf_no ‹_›]; simp [RpLe, L2, RcLe, zeroD, zeroT]; done)
   | (rw [bf_yes60 ‹_›]; simp [RpLe, L2, RcLe]; done)
   | (rw [bf_yes ‹_›]; simp [RpLe, L2, RcLe, half, halfN]; done)
theorem getD_set {α : Type} {l : List α} {i j : Nat} {x d : α} (hi : i < l.length) : (l.set i x).getD j d = if i = j then x else l.getD j d := by
 simp only [List.getD_eq_getElem?_getD, List.getElem?_set]
 split
 ·rename_i e
  subst e
  simp [hi]
 ·rfl
theorem rowOk_of {l : List Int} (h1 : l.length ≤ 48) (h2 : NumsOk l) : rowOk l = true := by
 simp only [rowOk, Bool.and_eq_true, decide_eq_true_eq, List.all_eq_true]
 exact ⟨h1, h2⟩
theorem rowOk_torn {a b : List Int} (ha : rowOk a = true) (hb : rowOk b = true) : rowOk (tornF a b) = true := by
 obtain ⟨h1, h2⟩ := rowOk_nums ha
 obtain ⟨h3, h4⟩ := rowOk_nums hb
 refine rowOk_of ?_ fun x hx => ?_
 ·simp only [tornF, List.length_append, List.length_take, List.length_drop]; omega
 ·rcases List.mem_append.1 hx with hx | hx
  ·exact h2 x (List.mem_of_mem_take hx)
  ·exact h4 x (List.mem_of_mem_drop hx)
theorem rowOk_nil : rowOk [] = true := by decide
theorem wait_ok {d : Disk} (h : diskOk d = true) {k : Nat} (hk : k < d.wait.length) : hasAt d d.wait[k].1 = true ∧ rowOk d.wait[k].2 = true := by
 have := (diskOk_sizes h).2.2.2.2 _ (List.getElem_mem hk)
 simp only [writeOk, Bool.and_eq_true] at this
 exact this
theorem fallUp_ok {d : Disk} (h : diskOk d = true) (F : List Int) (all : Bool) : ∀ k, k ≤ d.wait.length → ∀ r ∈ fallUp d F all k, rowOk r = true
 | 0, _ => fun r hr => (diskOk_sizes h).2.2.2.1 r hr
 | k + 1, hk => fun r hr => by
  have ih := fallUp_ok h F all k om
  have hw := wait_ok h (k := k) om
  rw [show fallUp d F all (k + 1) = fallStep (fateAt F k) all (fallUp d F all k) d.wait[k] by simp only [fallUp]; rw [getD_lenW (show k < d.wait.length by omega)]] at hr
  have key : ∀ z : List Int, rowOk z = true → r ∈ (fallUp d F all k).set d.wait[k].1.toNat z → rowOk r = true := fun z hz hm => by
   rcases List.mem_or_eq_of_mem_set hm with h9 | h9
   ·exact ih r h9
   ·rw [h9]; exact hz
  simp only [fallStep] at hr
  split at hr
  ·exact key _ hw.2 hr
  ·split at hr
   ·refine key _ (rowOk_torn hw.2 ?_) hr
    rw [List.getD_eq_getElem?_getD]
    cases h9 : (fallUp d F all k)[d.wait[k].1.toNat]? with
    | none => exact rowOk_nil
    | some r9 => exact ih r9 (List.mem_of_getElem? h9)
   ·exact ih r hr
theorem fall_ok {d : Disk} (h : diskOk d = true) (F : List Int) (all : Bool) : diskOk (fallF d F all) = true := by
 rw [fall_yes h]
 have h1 := diskOk_sizes h
 have h2 := fallUp_len d F all d.wait.length
 simp only [diskOk, Bool.and_eq_true, decide_eq_true_eq, List.all_eq_true, List.length_nil]
 exact ⟨by omega, by omega, by omega, fun r hr => fallUp_ok h F all _ (Nat.le_refl _) r hr, by simp⟩
theorem fall_len {d : Disk} (h : diskOk d = true) (F : List Int) (all : Bool) : (fallF d F all).kept.length = d.kept.length := by
 rw [fall_yes h]; exact fallUp_len d F all _
theorem lastW_snoc {l : List (Int × List Int)} {y : Int × List Int} {x : Int} : lastW (l ++ [y]) x = if y.1 = x then some y.2 else lastW l x := by simp [lastW, List.foldl_append]
theorem sync_at {d : Disk} (h : diskOk d = true) {x : Int} (hx : 0 ≤ x) : ∀ k, k ≤ d.wait.length → (fallUp d [] true k).getD x.toNat [] = (lastW (d.wait.take k) x).getD (d.kept.getD x.toNat [])
 | 0, _ => by simp [fallUp, lastW]
 | k + 1, hk => by
  have ih := sync_at h hx k om
  have hw := wait_at h (k := k) om
  have hl := fallUp_len d [] true k
  rw [show fallUp d [] true (k + 1) = (fallUp d [] true k).set d.wait[k].1.toNat d.wait[k].2 by simp only [fallUp]; rw [getD_lenW (show k < d.wait.length by omega)]; simp [fallStep], getD_set om, List.take_succ_eq_append_getElem om, lastW_snoc]
  by_cases e : d.wait[k].1 = x
  ·rw [if_pos e, if_pos (by rw [e])]; rfl
  ·rw [if_neg e, if_neg om, ih]
theorem sync_read {d : Disk} {x : Int} : readF (fallF d [] true) x = readF d x := by
 cases h : diskOk d
 ·rw [fall_no h, read_no1 h, read_no1 (by decide)]
 ·cases hh : hasAt d x
  ·rw [read_no2 hh, read_no2]
   have := fall_len h [] true
   unfold hasAt at hh ⊢
   rw [this]
   exact hh
  ·have hx := hasAt_iff.1 hh
   have h1 : hasAt (fallF d [] true) x = true := by
    rw [hasAt_iff, fall_len h]; exact hx
   have h2 := sync_at h hx.1 d.wait.length (Nat.le_refl _)
   rw [List.take_length] at h2
   unfold readF
   rw [fall_ok h, h1, h, hh, fall_yes h]
   simp only [Bool.and_self, if_true]
   rw [← h2]
   rfl
theorem twoOk_iff {t : Two} : twoOk t = true ↔ diskOk t.a = true ∧ diskOk t.b = true ∧ t.a.kept.length = t.b.kept.length := by simp [twoOk]
theorem bsync_ok {t : Two} (h : twoOk t = true) : twoOk (bothSyncF t) = true := by
 obtain ⟨h1, h2, h3⟩ := twoOk_iff.1 h
 rw [bsync_yes h]
 exact twoOk_iff.2 ⟨fall_ok h1 _ _, fall_ok h2 _ _, by rw [fall_len h1, fall_len h2, h3]⟩
theorem bfall_ok {t : Two} {F : List Int} (h : twoOk t = true) : twoOk (bothFallenF t F) = true := by
 obtain ⟨h1, h2, h3⟩ := twoOk_iff.1 h
 rw [bf_yes h]
 exact twoOk_iff.2 ⟨fall_ok h1 _ _, fall_ok h2 _ _, by rw [fall_len h1, fall_len h2, h3]⟩
theorem right_sync {t : Two} {x : Int} : rightF (bothSyncF t) x = rightF t x := by
 cases h : twoOk t
 ·rw [bsync_no h, right_no1 h, right_no1 (by decide)]
 ·have h0 := bsync_ok h
  unfold rightF
  rw [h0, h, bsync_yes h]
  simp only [sync_read, Bool.true_and]
  have : hasAt (fallF t.a [] true) x = hasAt t.a x := by unfold hasAt; rw [fall_len (twoOk_both h).1]
  rw [this]
theorem keptOk_iff {t : Two} : keptOk t = true ↔ twoOk t = true ∧ t.a.kept.length = 22 := by simp [keptOk]
theorem kept_sync {t : Two} : keptOk (bothSyncF t) = keptOk t := by
 cases h : twoOk t
 ·rw [bsync_no h]
  unfold keptOk
  rw [h]
  rfl
 ·unfold keptOk
  rw [h, bsync_ok h, bsync_yes h]
  simp only [fall_len (twoOk_both h).1]
theorem headUp_sync {t : Two} : ∀ k, headUp (bothSyncF t) k = headUp t k
 | 0 => rfl
 | k + 1 => by simp only [headUp, right_sync, headUp_sync k]
theorem headIn_sync {t : Two} : headIn (bothSyncF t) = headIn t := by
 unfold headIn
 rw [kept_sync, headUp_sync]
theorem log_all {n : LogN} (h : logOkF n = true) : keptOk n.two = true ∧ headOk n.head = true ∧ bookOk n.book = true ∧ n.book.base = n.head.base ∧ n.book.time = n.head.time := by
 simp only [logOkF, frontF, Bool.and_eq_true, decide_eq_true_eq] at h
 exact ⟨h.1.1, h.1.2.1, h.1.2.2.1, h.1.2.2.2.1, h.1.2.2.2.2⟩
theorem log_parts {n : LogN} (h : logOkF n = true) : frontF n = true ∧ midF n = true ∧ owesF n = true ∧ (if n.more then inB n.next.base (n.head.base + 1) n.durable && eqHd n.next (nextF n n.next.base) else eqHd n.next noHead) = true := by
 simp only [logOkF, Bool.and_eq_true] at h
 exact h
theorem log_seen {n : LogN} (h : logOkF n = true) : overL n.head.seen n.book.entries = some n.seen ∧ SOk n.head.seen ∧ SOk n.seen := by
 obtain ⟨_, hh, hb, _⟩ := log_all h
 have hm := (log_parts h).2.1
 simp only [midF, Bool.and_eq_true] at hm
 obtain ⟨c, hc⟩ := so_some hm.1
 have hs := sok_of (head_bd hh).2.2.2.2
 have e := so4 (of_sok hs) (by have := book_bd hb; omega) hc
 rw [e] at hm
 have := marks_eq hm.2.1
 simp only at this
 rw [← this]
 exact ⟨hc, hs, over_sok hs hc⟩
theorem eqHd_eq {a b : Head} (h : eqHd a b = true) : a = b := by
 simp only [eqHd, Bool.and_eq_true, decide_eq_true_eq] at h
 obtain ⟨h1, h2, h3, h4⟩ := h
 have := marks_eq h4
 cases a
 cases b
 simp_all
theorem log_next {n : LogN} (h : logOkF n = true) (hm : n.more = true) : headOk n.next = true ∧ n.head.base < n.next.base ∧ n.next.base ≤ n.durable ∧ n.next = nextF n n.next.base := by
 obtain ⟨h1, h2, h3, h4⟩ := log_parts h
 have h5 := next_same h1 h2 hm
 rw [if_pos hm] at h4
 rw [h4] at h5
 have h6 := h5.symm
 simp only [nextOkF, hm, if_true, Bool.and_eq_true] at h6
 simp only [Bool.and_eq_true] at h4
 have h7 := inB_iff.1 h4.1
 exact ⟨h6.1, by omega, by omega, eqHd_eq h4.2⟩
def keptHeadF (t : Two) (h : Head) : Two × Bool := if keptOk t then if headOk h then bothWroteF t (h.num % 2) (headRowF h) else (t, false) else (zeroT, false)
theorem kh_no {t : Two} {h : Head} (hk : keptOk t = false) : keptHeadF t h = (zeroT, false) := by simp [keptHeadF, hk]
theorem kh_yes {t : Two} {h : Head} (hk : keptOk t = true) (hh : headOk h = true) : keptHeadF t h = bothWroteF t (h.num % 2) (headRowF h) := by simp [keptHeadF, hk, hh]
theorem wrote_ok {d : Disk} {x : Int} {row : List Int} (h : diskOk d = true) : diskOk (wroteF d x row).1 = true := by
 cases h2 : wroteOk d x row
 ·rw [wrote_fail h h2]; exact h
 ·rw [wrote_yes h h2]
  have h1 := diskOk_sizes h
  simp only [wroteOk, Bool.and_eq_true, decide_eq_true_eq] at h2
  simp only [diskOk, Bool.and_eq_true, decide_eq_true_eq, List.all_eq_true, List.length_append, List.length_singleton]
  refine ⟨by omega, by omega, by omega, h1.2.2.2.1, fun y hy => ?_⟩
  rcases List.mem_append.1 hy with hy | hy
  ·have := h1.2.2.2.2 y hy
   simpa [writeOk, hasAt] using this
  ·rw [List.mem_singleton.1 hy]
   simp only [writeOk, Bool.and_eq_true]
   exact ⟨h2.1, h2.2.1⟩
theorem wrote_len {d : Disk} {x : Int} {row : List Int} (h : diskOk d = true) : (wroteF d x row).1.kept = d.kept := by
 cases h2 : wroteOk d x row
 ·rw [wrote_fail h h2]
 ·rw [wrote_yes h h2]
theorem both_ok {t : Two} {x : Int} {row : List Int} (h : twoOk t = true) : twoOk (bothWroteF t x row).1 = true := by
 obtain ⟨h1, h2, h3⟩ := twoOk_iff.1 h
 unfold bothWroteF
 rw [h]
 simp only [if_true]
 split
 ·exact twoOk_iff.2 ⟨wrote_ok h1, wrote_ok h2, by rw [wrote_len h1, wrote_len h2, h3]⟩
 ·exact h
end Go.Proofs.YtahkjonokeifmaaGreat
