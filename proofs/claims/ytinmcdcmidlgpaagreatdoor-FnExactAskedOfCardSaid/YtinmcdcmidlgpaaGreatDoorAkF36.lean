/- Walks of functions of the program, printed by a program of the prover. -/
import Derived.Test.YtinmcdcmidlgpaaGreatDoorAkF34
namespace Go.Proofs.YtinmcdcmidlgpaaGreatDoor
open Go.ChangeShapes Go.WideShapes Go.ChangeAt Go.RowKit
set_option linter.unusedVariables false
set_option linter.unusedSimpArgs false
set_option maxHeartbeats 1000000
set_option maxRecDepth 100000
attribute [local irreducible] EvL Ev EvE Quiet Eff Pure RDk RDb RDo
theorem so_len {l c : List Mark} {es : List Entry} (h : SOk l) (hc : overL l es = some c) : c.length ≤ 4 := seen_len (of_sok (over_sok h hc))
theorem c_SeenOver (l : List Mark) (es : List Entry) : Pure Tryz.prog 97 [one (marks l), one (entries es)] [one' (marksR (seenOverF l es).1), one' (RC.v (.bool (seenOverF l es).2))] := by
 refine pure_intro (N := 42) Tryz.func97 rfl rfl rfl rfl (fun H w => ?_)
 refine ev_lenm (t := 0) rfl (fun hL => ?_)
 refine ev_lenm (t := 1) rfl (fun hE => ?_)
 refine sq (rg (xs rfl rfl (xs rfl rfl (nl (et (sq (sq (rg (xm rfl rfl (evl_call (nm := 11) (cf rfl) (c_SeenOk l) (rs_of rfl) rfl rfl rfl (xo (q_not rfl) rfl (nl (et (ev_cond_n rfl (fun h1 => ?_) (fun h1 => ?_)))))))))))))))
 ·try have d1 := of_decide_eq_false h1
  refine sq (rg (evl_e (e_lit ttOk rfl rfl rfl) (xs rfl rfl (xs rfl rfl (nl (et (ev_ret (evr_then (ret_pureN ttOk rfl rfl ?_)))))))))
  first
  | (rw [so1 ‹_›]; simp [RpLe, L2, RcLe]; done)
  | (rw [so2 ‹_› om]; simp [RpLe, L2, RcLe]; done)
  | (rw [so3 ‹_› (over_stop hso om p1 ‹_›)]; simp [RpLe, L2, RcLe]; done)
  | (rw [so4 ‹_› om (over_end om p1)]; simp [RpLe, L2, RcLe]; done)
 ·try have d1 := of_decide_eq_true h1
  have hl4 := seen_len h1
  have hso := sok_of h1
  refine ev_skip (et (sq (sq (rg (xm rfl rfl (xo (q_len_map ttOk rfl rfl) rfl (xb ttOk rfl rfl (nl (et (ev_cond rfl (fun h2 => ?_) (fun h2 => ?_)))))))))))
  ·try have d2 := of_decide_eq_true h2
   refine sq (rg (xm rfl rfl (evl_call (nm := 18) (cf rfl) (c_l9Copy l om) (rs_of rfl) rfl rfl rfl (xs rfl rfl (xs rfl rfl (nl (et (ev_ret (evr_then (ret_pureN ttOk rfl rfl ?_))))))))))
   first
   | (rw [so1 ‹_›]; simp [RpLe, L2, RcLe]; done)
   | (rw [so2 ‹_› om]; simp [RpLe, L2, RcLe]; done)
   | (rw [so3 ‹_› (over_stop hso om p1 ‹_›)]; simp [RpLe, L2, RcLe]; done)
   | (rw [so4 ‹_› om (over_end om p1)]; simp [RpLe, L2, RcLe]; done)
  ·try have d2 := of_decide_eq_false h2
   refine ev_skip (et (sq (rg (xm rfl rfl (evl_call (nm := 20) (cf rfl) (c_l9Copy l om) (rs_of rfl) rfl rfl rfl (xs rfl rfl (nl (et (sq (sq (rg (xs rfl rfl (nl (et (ev_blk (ev_loop (fun i : Nat × List Mark => (⟨[(7, iV i.1), (0, cV (marks l)), (1, cV (entries es)), (6, .p false [.rt 101])], [], [(101, 94, 3, (i.2.map markC))], []⟩ : St)) (fun i => i.1 ≤ es.length ∧ overL l (es.take i.1) = some i.2) (fun i => es.length - i.1) (0, l) [(101, 20)] (⟨by simp, rfl⟩) ⟨trf, trf, ⟨⟨_, rfl, by rfl⟩, trivial⟩, tre, rfl⟩ ?_))))))))))))))))
   intro i hp
   obtain ⟨k, c⟩ := i
   have hp : k ≤ es.length ∧ overL l (es.take k) = some c := hp
   obtain ⟨p0, p1⟩ := hp
   show Ev _ _ _ _ (⟨[(7, iV k), (0, cV (marks l)), (1, cV (entries es)), (6, .p false [.rt 101])], [], [(101, 94, 3, (c.map markC))], []⟩ : St)
   have hcl := so_len hso p1
   refine sq (sq (rg (xm rfl rfl (xm rfl rfl (xo (q_len_map ttOk rfl rfl) rfl (xb ttOk rfl rfl (nl (et (ev_cond rfl (fun h3 => ?_) (fun h3 => ?_))))))))))
   ·try have d3 := of_decide_eq_true h3
    refine ev_skip (et (sq (ev_blk (sq (rg (xm rfl rfl (xm rfl rfl (xm rfl rfl (xo (q_ix_map ttOk rfl rfl rfl rfl om) rfl (xl ttOk rfl rfl (evl_call (nm := 33) (cf rfl) (c_Marked c es[k]) (rs_of rfl) rfl rfl rfl (xm rfl rfl (xo (q_ext rfl) rfl (xo (q_ext rfl) rfl (xs rfl rfl (xs rfl rfl (nl (et (sq (sq (rg (xm rfl rfl (xo (q_not rfl) rfl (nl (et (ev_cond_n rfl (fun h4 => ?_) (fun h4 => ?_)))))))))))))))))))))))))))
    ·try have d4 := of_decide_eq_false h4
     refine sq (rg (xm rfl rfl (evl_call (nm := 39) (cf rfl) (c_l9Copy l om) (rs_of rfl) rfl rfl rfl (xs rfl rfl (xs rfl rfl (nl (et (ev_ret (evr_then (evr_blk (evr_then (evr_then (evr_blk (evr_then (ret_pureN ttOk rfl rfl ?_)))))))))))))))
     first
     | (rw [so1 ‹_›]; simp [RpLe, L2, RcLe]; done)
     | (rw [so2 ‹_› om]; simp [RpLe, L2, RcLe]; done)
     | (rw [so3 ‹_› (over_stop hso om p1 ‹_›)]; simp [RpLe, L2, RcLe]; done)
     | (rw [so4 ‹_› om (over_end om p1)]; simp [RpLe, L2, RcLe]; done)
    ·try have d4 := of_decide_eq_true h4
     refine ev_skip (et (rg (xm rfl rfl (xs rfl rfl (nl (eb (et (rg (xm rfl rfl (xa rfl rfl rfl om rfl (xs rfl rfl (nl (eve_round (k + 1, (markedF c es[k]).1) [(101, 33)] ?hp ⟨trf, trf, ⟨⟨_, rfl, by rfl⟩, trivial⟩, tre, rfl⟩)))))))))))))
     case hp => exact ⟨⟨by omega, over_marked hso om p1 ‹_›⟩, by omega⟩
   ·try have d3 := of_decide_eq_false h3
    refine ev_exit (evx_then (evx_then (evx_hit (et (sq (rg (xm rfl rfl (xs rfl rfl (xs rfl rfl (nl (et (ev_ret (ret_pureN ttOk rfl rfl ?_)))))))))))))
    first
    | (rw [so1 ‹_›]; simp [RpLe, L2, RcLe]; done)
    | (rw [so2 ‹_› om]; simp [RpLe, L2, RcLe]; done)
    | (rw [so3 ‹_› (over_stop hso om p1 ‹_›)]; simp [RpLe, L2, RcLe]; done)
    | (rw [so4 ‹_› om (over_end om p1)]; simp [RpLe, L2, RcLe]; done)
theorem c_SeenOver' (l : List Mark) (es : List Entry) : Pure Tryz.prog 105 [one (marks l), one (entries es)] [one' (marksR (seenOverF l es).1), one' (RC.v (.bool (seenOverF l es).2))] := by
 refine pure_intro (N := 98) Tryz.func105 rfl rfl rfl rfl (fun H w => ?_)
 refine ev_lenm (t := 0) rfl (fun hL => ?_)
 refine ev_lenm (t := 1) rfl (fun hE => ?_)
 refine sq (rg (xs rfl rfl (xs rfl rfl (nl (et (sq (sq (rg (xm rfl rfl (evl_call (nm := 17) (cf rfl) (c_SeenOk' l) (rs_of rfl) rfl rfl rfl (xo (q_not rfl) rfl (nl (et (ev_cond_n rfl (fun h1 => ?_) (fun h1 => ?_)))))))))))))))
 try have d1 := of_decide_eq_false h1
 refine sq (rg (xs rfl rfl (xs rfl rfl (nl (et (ev_ret (evr_then (ret_pureN ttOk rfl rfl ?_))))))))
 rotate_left
 try have d1 := of_decide_eq_true h1
 have hl4 := seen_len h1
 have hso := sok_of h1
 refine ev_skip (et (sq (sq (rg (xm rfl rfl (xo (q_len_map ttOk rfl rfl) rfl (xb ttOk rfl rfl (nl (et (ev_cond rfl (fun h2 => ?_) (fun h2 => ?_)))))))))))
 try have d2 := of_decide_eq_true h2
 refine sq (rg (xm rfl rfl (evl_call (nm := 23) (cf rfl) (c_copySeen l om) (rs_of rfl) rfl rfl rfl (xs rfl rfl (xs rfl rfl (nl (et (ev_ret (evr_then (ret_pureN ttOk rfl rfl ?_))))))))))
 rotate_left
 try have d2 := of_decide_eq_false h2
 refine ev_skip (et (sq (rg (evl_e (e_mkmap (kt := 2) (et := 94) kr rfl rfl) (xs rfl rfl (nl (et (sq (sq (rg (xm rfl rfl (xo (q_len_map ttOk rfl rfl) rfl (xm rfl rfl (nl (et (ev_blk (ev_loop (fun k : Nat => (⟨[(27, iV k), (25, cV (marks l)), (26, iV l.length), (0, cV (marks l)), (1, cV (entries es)), (6, .p false [.mp 24])], [], [], [(24, mapF (l.take k))]⟩ : St)) (fun k => k ≤ l.length) (fun k => l.length - k) 0 [] (by simp) ⟨trf, trf, tre, ⟨⟨_, rfl, rfl⟩, trivial⟩, rfl⟩ ?_)))))))))))))))))
 intro k hp
 have p0 := hp
 show Ev _ _ _ _ (⟨[(27, iV k), (25, cV (marks l)), (26, iV l.length), (0, cV (marks l)), (1, cV (entries es)), (6, .p false [.mp 24])], [], [], [(24, mapF (l.take k))]⟩ : St)
 refine sq (rg (xb ttOk rfl rfl (nl (et (sq (ev_cond rfl (fun h3 => ?_) (fun h3 => ?_)))))))
 try have d3 := of_decide_eq_true h3
 refine ev_skip (et (sq (ev_blk (sq (rg (xo (q_ix_map ttOk rfl rfl rfl rfl om) rfl (xl ttOk rfl rfl (evl_e (e_alloc ttOk rfl rfl rfl rfl) (xst ttOk rfl rfl (nl (et (rg (xm rfl rfl (xf ttOk rfl rfl (xl ttOk rfl rfl (xl ttOk rfl rfl (evl_e (e_mapset (f' := mapF (l.take (k + 1))) (kt := 2) (et := 94) kr rfl rfl rfl rfl rfl (mapA_next hso om) rfl) (nl (eb (et (rg (xa rfl rfl rfl om rfl (xm rfl rfl (nl (eve_round (k + 1) [] ?hp lei)))))))))))))))))))))))))
 case hp => exact ⟨by omega, by omega⟩
 try have d3 := of_decide_eq_false h3
 refine ev_exit (evx_then (evx_then (evx_hit (et (sq (rg (xm rfl rfl (evl_call (nm := 37) (cf rfl) (c_lastSeen l) (rs_of rfl) rfl rfl rfl (xs rfl rfl (nl (et (sq (sq (rg (xm rfl rfl (xo (q_len_map ttOk rfl rfl) rfl (xm rfl rfl (nl (et (ev_blk (ev_loop (fun i : Nat × List Mark × Int => (⟨[(40, iV i.1), (38, cV (entries es)), (39, iV es.length), (0, cV (marks l)), (6, .p false [.mp 24]), (9, iV i.2.2)], [], [], [(24, mapF i.2.1)]⟩ : St)) (fun i => i.1 ≤ es.length ∧ overL l (es.take i.1) = some i.2.1 ∧ i.2.2 = lastF i.2.1) (fun i => es.length - i.1) (0, l, lastF l) [] (⟨by simp, rfl, rfl⟩) ⟨trf, trf, tre, ⟨⟨_, rfl, by rw [List.take_of_length_le om]⟩, trivial⟩, rfl⟩ ?_)))))))))))))))))))))
 intro i hp
 obtain ⟨k, c, s⟩ := i
 have hp : k ≤ es.length ∧ overL l (es.take k) = some c ∧ s = lastF c := hp
 obtain ⟨p0, p1, p2⟩ := hp
 show Ev _ _ _ _ (⟨[(40, iV k), (38, cV (entries es)), (39, iV es.length), (0, cV (marks l)), (6, .p false [.mp 24]), (9, iV s)], [], [], [(24, mapF c)]⟩ : St)
 subst p2
 have hcl := so_len hso p1
 have hsc := over_sok hso p1
 refine sq (rg (xb ttOk rfl rfl (nl (et (sq (ev_cond rfl (fun h4 => ?_) (fun h4 => ?_)))))))
 try have d4 := of_decide_eq_true h4
 refine ev_skip (et (sq (ev_blk (sq (rg (xo (q_ix_map ttOk rfl rfl rfl rfl om) rfl (xl ttOk rfl rfl (evl_e (e_alloc ttOk rfl rfl rfl rfl) (xst ttOk rfl rfl (nl (et (sq (sq (rg (xl ttOk rfl rfl (evl_call (nm := 45) (cf rfl) (c_EntryOk' es[k]) (rs_of rfl) rfl rfl rfl (xo (q_not rfl) rfl (xm rfl rfl (evl_partn rfl rfl (fun h5 => ?_) (fun h5 => ?_))))))))))))))))))))
 try have d5 := of_decide_eq_false h5
 refine gn (nt h5) rfl rfl rfl (gn (nt h5) rfl rfl rfl (gn (nt h5) rfl rfl rfl (gn (nt h5) rfl rfl rfl (gn (nt h5) rfl rfl rfl (gn (nt h5) rfl rfl rfl (gn (nt h5) rfl rfl rfl (gn (nt h5) rfl rfl rfl (xo (q_pick_t rfl (nt h5) rfl) rfl (xm rfl rfl (gn rfl rfl rfl rfl (gn rfl rfl rfl rfl (gn rfl rfl rfl rfl (gn rfl rfl rfl rfl (xo (q_pick_t rfl rfl rfl) rfl (nl (et (ev_cond_kt rfl rfl (sq (rg (xm rfl rfl (evl_call (nm := 64) (cf rfl) (c_copySeen l om) (rs_of rfl) rfl rfl rfl (xs rfl rfl (xs rfl rfl (nl (et (ev_ret (evr_then (evr_blk (evr_then (evr_then (evr_blk (evr_then (ret_pureN ttOk rfl rfl ?_)))))))))))))))))))))))))))))))))
 rotate_left
 try have d5 := of_decide_eq_true h5
 refine go (nf h5) rfl rfl (q_fieldAddr ttOk rfl) rfl (go (nf h5) rfl rfl (q_load ttOk rfl) rfl (gm (nf h5) rfl rfl rfl rfl (go (nf h5) rfl rfl (q_fieldAddr ttOk rfl) rfl (go (nf h5) rfl rfl (q_load ttOk rfl) rfl (go (nf h5) rfl rfl (q_lookup_s (us := [.int .i64 (findM c es[k].client).client, .int .i64 (findM c es[k].client).seq, .int .i64 (findM c es[k].client).index]) (kt := 2) (et := 94) kr ttOk rfl rfl rfl rfl rfl rfl (look_at c _) (mark_one _)) rfl (go (nf h5) rfl rfl (q_field ttOk rfl) rfl (go (nf h5) rfl rfl (q_bin ttOk rfl) rfl (xo (q_pick_f rfl (nf h5) rfl) rfl (xm rfl rfl (evl_part rfl rfl (fun h6 => ?_) (fun h6 => ?_)))))))))))
 try have d6 := of_decide_eq_true h6
 refine gn h6 rfl rfl rfl (gn h6 rfl rfl rfl (gn h6 rfl rfl rfl (gn h6 rfl rfl rfl (xo (q_pick_t rfl h6 rfl) rfl (nl (et (ev_cond_kt rfl rfl (sq (rg (xm rfl rfl (evl_call (nm := 64) (cf rfl) (c_copySeen l om) (rs_of rfl) rfl rfl rfl (xs rfl rfl (xs rfl rfl (nl (et (ev_ret (evr_then (evr_blk (evr_then (evr_then (evr_blk (evr_then (ret_pureN ttOk rfl rfl ?_)))))))))))))))))))))))
 rotate_left
 try have d6 := of_decide_eq_false h6
 refine go h6 rfl rfl (q_fieldAddr ttOk rfl) rfl (go h6 rfl rfl (q_load ttOk rfl) rfl (gm h6 rfl rfl rfl rfl (go h6 rfl rfl (q_bin ttOk rfl) rfl (xo (q_pick_f rfl h6 rfl) rfl (nl (et (ev_cond rfl (fun h7 => ?_) (fun h7 => ?_))))))))
 try have d7 := of_decide_eq_true h7
 refine sq (rg (xm rfl rfl (evl_call (nm := 64) (cf rfl) (c_copySeen l om) (rs_of rfl) rfl rfl rfl (xs rfl rfl (xs rfl rfl (nl (et (ev_ret (evr_then (evr_blk (evr_then (evr_then (evr_blk (evr_then (ret_pureN ttOk rfl rfl ?_)))))))))))))))
 rotate_left
 try have d7 := of_decide_eq_false h7
 refine ev_skip (et (sq ?_))
 have hfr := fresh_yes2 (l := c) (e := es[k]) ‹_› ‹_› ‹_›
 refine rg (xm rfl rfl (xf ttOk rfl rfl (xl ttOk rfl rfl (evl_e (e_mapdel (kt2 := 2) (f' := fun q => if q = es[k].client then none else mapF c q) (kt := 2) (et := 94) kr rfl rfl rfl rfl (fun q => rfl) rfl) (nl (et (sq (rg (xm rfl rfl (xf ttOk rfl rfl (xl ttOk rfl rfl (xf ttOk rfl rfl (xl ttOk rfl rfl (xf ttOk rfl rfl (xl ttOk rfl rfl (xf ttOk rfl rfl (xl ttOk rfl rfl (xo (q_build ttOk rfl) rfl (evl_e (e_mapset (f' := mapF (insF c (eMark es[k]))) (kt := 2) (et := 94) kr rfl rfl rfl rfl rfl (mapB_next c es[k]) rfl) (nl (et (rg (xf ttOk rfl rfl (xl ttOk rfl rfl (xs rfl rfl (nl (eb (et (rg (xa rfl rfl rfl om rfl (xm rfl rfl (nl (eve_round (k + 1, insF c (eMark es[k]), es[k].index) [] ?hp lei)))))))))))))))))))))))))))))))))
 case hp => exact ⟨⟨by omega, over_yes om p1 hfr, (fresh_ok hsc hfr).2.symm⟩, by omega⟩
 try have d4 := of_decide_eq_false h4
 refine ev_exit (evx_then (evx_then (evx_hit (et (sq ?_)))))
 obtain rfl : k = es.length := by omega
 refine rg (evl_e (e_lit ttOk rfl rfl rfl) (xs rfl rfl (nl (et (sq (sq (rg (xs rfl rfl (nl (et (ev_blk (ev_loop (fun i : Nat × Int => (⟨[(13, iV i.2), (6, .p false [.mp 24]), (12, .p false [.rt 101])], [], [(101, 94, 3, ((outF c i.1).map markC))], [(24, mapF c)]⟩ : St)) (fun i => i.1 ≤ 4 ∧ i.2 = (i.1 : Int) + 2) (fun i => 4 - i.1) (0, 2) [(101, 81)] (⟨by simp, rfl⟩) ⟨trf, trf, ⟨⟨_, rfl, by rw [outF_zero hsc]; rfl⟩, trivial⟩, tre, rfl⟩ ?_))))))))))))
 intro i hp
 obtain ⟨j, z⟩ := i
 have hp : j ≤ 4 ∧ z = (j : Int) + 2 := hp
 obtain ⟨q0, q1⟩ := hp
 show Ev _ _ _ _ (⟨[(13, iV z), (6, .p false [.mp 24]), (12, .p false [.rt 101])], [], [(101, 94, 3, ((outF c j).map markC))], [(24, mapF c)]⟩ : St)
 refine sq (sq (rg (xm rfl rfl (xb ttOk rfl rfl (nl (et (ev_cond rfl (fun h8 => ?_) (fun h8 => ?_))))))))
 try have d8 := of_decide_eq_true h8
 refine ev_skip (et (sq (ev_blk (sq (rg (xm rfl rfl (xm rfl rfl (xo (q_lookup_ok (us := [.int .i64 (findM c z).client, .int .i64 (findM c z).seq, .int .i64 (findM c z).index]) (kt := 2) (et := 94) kr ttOk rfl rfl rfl rfl rfl rfl (look_at c _) (look_some c _) (mark_one _)) rfl (xm rfl rfl (xo (q_ext rfl) rfl (xo (q_ext rfl) rfl (evl_e (e_alloc ttOk rfl rfl rfl rfl) (xst ttOk rfl rfl (xs rfl rfl (nl (et (sq (rg (xm rfl rfl (nl (et (ev_cond rfl (fun h9 => ?_) (fun h9 => ?_)))))))))))))))))))))))
 try have d9 := of_decide_eq_true h9
 have hol : (outF c j).length ≤ c.length := List.length_filter_le _ _
 refine rg (xm rfl rfl (xl ttOk rfl rfl (evl_e (e_lit ttOk rfl rfl rfl) (evl_e (e_app ttOk rfl rfl rfl rfl rfl rfl rfl (by simp; omega) rfl rfl) (xs rfl rfl (nl (eb (et (rg (xm rfl rfl (xa rfl rfl rfl om rfl (xs rfl rfl (nl (eve_round (j + 1, _) [(101, 96)] ?hp ⟨trf, trf, ⟨⟨_, rfl, by exact out_yes hsc q1 ‹_›⟩, trivial⟩, tre, rfl⟩))))))))))))))
 case hp => exact ⟨⟨by omega, by omega⟩, by omega⟩
 try have d9 := of_decide_eq_false h9
 refine ev_skip (eb (et (rg (xm rfl rfl (xa rfl rfl rfl om rfl (xs rfl rfl (nl (eve_round (j + 1, _) [(101, 101)] ?hp ⟨trf, trf, ⟨⟨_, rfl, by exact out_no hsc q1 ‹_›⟩, trivial⟩, tre, rfl⟩))))))))
 case hp => exact ⟨⟨by omega, by omega⟩, by omega⟩
 try have d8 := of_decide_eq_false h8
 refine ev_exit (evx_then (evx_then (evx_hit (et (sq (rg (xm rfl rfl (xs rfl rfl (xs rfl rfl (nl (et (ev_ret (ret_pureN ttOk rfl rfl ?_)))))))))))))
 rotate_left
 all_goals
  first
  | (rw [so1 ‹_›]; simp [RpLe, L2, RcLe]; done)
  | (rw [so2 ‹_› om]; simp [RpLe, L2, RcLe]; done)
  | (rw [so3 ‹_› (over_no om p1 (fresh_no1 ‹_›))]; simp [RpLe, L2, RcLe]; done)
  | (rw [so3 ‹_› (over_no om p1 (fresh_no4 ‹_›))]; simp [RpLe, L2, RcLe]; done)
  | (rw [so3 ‹_› (over_no om p1 (fresh_no3 ‹_›))]; simp [RpLe, L2, RcLe]; done)
  | (obtain rfl : j = 4 := by omega
     rw [so4 ‹_› om (over_end om p1), outF_all hsc]; simp [RpLe, L2, RcLe]; done)
def noEntry : Entry := ⟨0, 0, 0, 0, 0, 0, 0, 0, 0⟩
def atB (b : Book) (x : Int) : Entry := b.entries.getD (x - b.base - 1).toNat noEntry
def timeAtF (b : Book) (x : Int) : Int := if x = b.base then b.time else (atB b x).time
def entAtF (b : Book) (x : Int) : Entry × Bool := if bookOk b && inB x (b.base + 1) (lastB b) then (atB b x, true) else (noEntry, false)
theorem atB_eq {b : Book} {x : Int} {m : Nat} (h : x - b.base - 1 = (m : Int)) (hm : m < b.entries.length) : atB b x = b.entries[m] := by
 unfold atB
 rw [h, Int.toNat_natCast, List.getD_eq_getElem?_getD, List.getElem?_eq_getElem hm]
 rfl
theorem at_get {b : Book} {x : Int} (h1 : b.base < x) (h2 : x ≤ lastB b) : ∃ m : Nat, x - b.base - 1 = (m : Int) ∧ m < b.entries.length := by
 unfold lastB at h2
 exact ⟨(x - b.base - 1).toNat, by omega, by omega⟩
theorem ent_no1 {b : Book} {x : Int} (h : bookOk b = false) : entAtF b x = (noEntry, false) := by simp [entAtF, h]
theorem ent_no2 {b : Book} {x : Int} (h : inB x (b.base + 1) (lastB b) = false) : entAtF b x = (noEntry, false) := by simp [entAtF, h]
theorem ent_yes {b : Book} {x : Int} {m : Nat} (h : bookOk b = true) (h2 : inB x (b.base + 1) (lastB b) = true) (h3 : x - b.base - 1 = (m : Int)) (hm : m < b.entries.length) : entAtF b x = (b.entries[m], true) := by simp [entAtF, h, h2, atB_eq h3 hm]
def nextF (n : LogN) (x : Int) : Head := ⟨n.head.num + 1, x, timeAtF n.book x, (seenOverF n.head.seen (partF n.book (n.book.base + 1) x)).1⟩
def owesF (n : LogN) : Bool := eqN Ack.nums n.owe ((partF n.book (n.durable + 1) 2000).map ackF)
theorem owes_len {n : LogN} (h : ((partF n.book (n.durable + 1) 2000).length : Int) ≠ n.owe.length) : owesF n = false := eqN_len (by rw [List.length_map]; omega)
theorem owes_at {n : LogN} {k : Nat} {L : List Entry} (hL : L = partF n.book (n.durable + 1) 2000) (h1 : k < n.owe.length) (h2 : k < L.length) (h : n.owe[k].nums ≠ (ackF L[k]).nums) : owesF n = false := by
 subst hL
 exact eqN_at (k := k) h1 (by simpa using h2) (by simpa using h)
theorem owes_all {n : LogN} {k : Nat} {L : List Entry} (hL : L = partF n.book (n.durable + 1) 2000) (hk : ¬ k < L.length) (hl : L.length = n.owe.length) (hp : (n.owe.take k).map Ack.nums = ((L.map ackF).take k).map Ack.nums) : owesF n = true := by
 subst hL
 exact takeN_all (k := k) om (by simpa using hl.symm) hp
theorem owes_next {n : LogN} {k : Nat} {L : List Entry} (h1 : k < n.owe.length) (h2 : k < L.length) (hp : (n.owe.take k).map Ack.nums = ((L.map ackF).take k).map Ack.nums) (h : n.owe[k].nums = (ackF L[k]).nums) : (n.owe.take (k + 1)).map Ack.nums = ((L.map ackF).take (k + 1)).map Ack.nums := takeN h1 (by simpa using h2) hp (by simpa using h)
theorem c_l12Part (b : Book) (x y : Int) (hb : b.entries.length ≤ 1048576) : Pure Tryz.prog 180 [many (bookC b), one (iC x), one (iC y)] [one' (entriesR (partF b x y))] := by
 refine pure_intro (N := 35) Tryz.func180 rfl rfl rfl rfl (fun H w => ?_)
 refine sq (rg (evl_e (e_box rfl rfl rfl rfl) (xs rfl rfl (nl (et (sq (rg (evl_e (e_lit ttOk rfl rfl rfl) (xs rfl rfl (nl (et (sq (sq (rg (xs rfl rfl (nl (et (ev_blk (ev_loop (fun k : Nat => (⟨[(8, iV k), (3, .p false [.pb 3 0]), (1, iV x), (2, iV y), (7, .p false [.rt 101])], [(3, 52, [.c (iC b.base), .c (iC b.time), .c (entries b.entries)])], [(101, 80, 9, (((b.entries.take k).filter (fun e : Entry => inB e.index x y)).map entryC))], []⟩ : St)) (fun k => k ≤ b.entries.length) (fun k => b.entries.length - k) 0 [(101, 9)] (by simp) ⟨trf, trf, ⟨⟨_, rfl, by rfl⟩, trivial⟩, tre, rfl⟩ ?_)))))))))))))))))))
 intro k hp
 have p0 := hp
 show Ev _ _ _ _ (⟨[(8, iV k), (3, .p false [.pb 3 0]), (1, iV x), (2, iV y), (7, .p false [.rt 101])], [(3, 52, [.c (iC b.base), .c (iC b.time), .c (entries b.entries)])], [(101, 80, 9, (((b.entries.take k).filter (fun e : Entry => inB e.index x y)).map entryC))], []⟩ : St)
 refine sq (sq (rg (xm rfl rfl (xf ttOk rfl rfl (xl ttOk rfl rfl (xo (q_len_map ttOk rfl rfl) rfl (xb ttOk rfl rfl (nl (et (ev_cond rfl (fun h1 => ?_) (fun h1 => ?_)))))))))))
 ·have d1 := of_decide_eq_true h1
  refine ev_skip (et (sq (ev_blk (sq (rg (xf ttOk rfl rfl (xl ttOk rfl rfl (xm rfl rfl (xo (q_ix_map ttOk rfl rfl rfl rfl om) rfl (xf ttOk rfl rfl (xl ttOk rfl rfl (xm rfl rfl (xm rfl rfl (evl_call (nm := 25) (cf rfl) (c_l1In _ _ _) (rs_of rfl) rfl rfl rfl (nl (et (ev_cond rfl (fun h2 => ?_) (fun h2 => ?_))))))))))))))))))
  ·have hfl := filter_len (p := (fun e : Entry => inB e.index x y)) (l := b.entries) (k := k)
   refine rg (xm rfl rfl (xf ttOk rfl rfl (xl ttOk rfl rfl (xm rfl rfl (xo (q_ix_map ttOk rfl rfl rfl rfl om) rfl (xl ttOk rfl rfl (evl_e (e_lit ttOk rfl rfl rfl) (evl_e (e_app ttOk rfl rfl rfl rfl rfl rfl rfl (by simp; omega) rfl rfl) (xs rfl rfl (nl (eb (et (rg (xm rfl rfl (xa rfl rfl rfl om rfl (xs rfl rfl (nl (eve_round (k + 1) [(101, 33)] ?hp ⟨trf, trf, ⟨⟨_, rfl, by rw [filter_yes (p := (fun e : Entry => inB e.index x y)) om ‹_›]; simp⟩, trivial⟩, tre, rfl⟩))))))))))))))))))
   case hp => exact ⟨by omega, by omega⟩
  ·refine ev_skip (eb (et (rg (xm rfl rfl (xa rfl rfl rfl om rfl (xs rfl rfl (nl (eve_round (k + 1) [(101, 101)] ?hp ⟨trf, trf, ⟨⟨_, rfl, by rw [filter_not (p := (fun e : Entry => inB e.index x y)) om ‹_›]⟩, trivial⟩, tre, rfl⟩))))))))
   case hp => exact ⟨by omega, by omega⟩
 ·have d1 := of_decide_eq_false h1
  refine ev_exit (evx_then (evx_then (evx_hit (et (sq (rg (xm rfl rfl (xs rfl rfl (nl (et (ev_ret (ret_pure' ttOk rfl rfl ?_))))))))))))
  rw [show partF b x y = (b.entries.take k).filter (fun e : Entry => inB e.index x y) from (filter_full om).symm]
theorem c_l8TimeAt (b : Book) (x : Int) (hb : bookOk b = true) (hx : b.base ≤ x ∧ x ≤ lastB b) : Pure Tryz.prog 130 [many (bookC b), one (iC x)] (iR (timeAtF b x)) := by
 refine pure_intro (N := 21) Tryz.func130 rfl rfl rfl rfl (fun H w => ?_)
 have hbd := book_bd hb
 have hx2 : x ≤ 4000 := by have := hx.2; unfold lastB at this; omega
 refine sq (rg (evl_e (e_box rfl rfl rfl rfl) (xs rfl rfl (nl (et (sq (sq (rg (xm rfl rfl (xf ttOk rfl rfl (xl ttOk rfl rfl (xb ttOk rfl rfl (nl (et (ev_cond rfl (fun h1 => ?_) (fun h1 => ?_))))))))))))))))
 ·try have d1 := of_decide_eq_true h1
  refine sq (rg (xf ttOk rfl rfl (xl ttOk rfl rfl (xs rfl rfl (nl (et (ev_ret (evr_then (ret_pure' ttOk rfl rfl ?_)))))))))
  rw [show timeAtF b x = b.time by simp only [timeAtF]; rw [if_pos ‹_›]]
 ·try have d1 := of_decide_eq_false h1
  refine ev_skip (et (sq ?_))
  obtain ⟨m, hm1, hm2⟩ := at_get (b := b) (x := x) om hx.2
  refine rg (xf ttOk rfl rfl (xl ttOk rfl rfl (xm rfl rfl (xf ttOk rfl rfl (xl ttOk rfl rfl (xa rfl rfl rfl om rfl (xa rfl rfl rfl om rfl (xo (q_ix_map (m := m) ttOk rfl rfl rfl om om) rfl (xf ttOk rfl rfl (xl ttOk rfl rfl (xs rfl rfl (nl (et (ev_ret (ret_pure' ttOk rfl rfl ?_)))))))))))))))
  rw [show timeAtF b x = b.entries[m].time by simp only [timeAtF]; rw [if_neg ‹_›, atB_eq hm1 hm2]]
theorem c_EntryAt (b : Book) (x : Int) : Pure Tryz.prog 91 [many (bookC b), one (iC x)] [many' [.v (.int .i64 ((entAtF b x).1).index), .v (.int .i64 ((entAtF b x).1).time), .v (.int .i64 ((entAtF b x).1).client), .v (.int .i64 ((entAtF b x).1).seq), .v (.int .i64 ((entAtF b x).1).kind), .v (.int .i64 ((entAtF b x).1).a), .v (.int .i64 ((entAtF b x).1).b), .v (.int .i64 ((entAtF b x).1).c), .v (.int .i64 ((entAtF b x).1).d)], one' (RC.v (.bool (entAtF b x).2))] := by
 refine pure_intro (N := 29) Tryz.func91 rfl rfl rfl rfl (fun H w => ?_)
 refine sq (rg (evl_e (e_box rfl rfl rfl rfl) (evl_e (e_alloc ttOk rfl rfl rfl rfl) (xs rfl rfl (nl (et (sq (sq (ev_drawq [] mo (rk0 0 rfl (q_load ttOk rfl) rfl (rdk_one 1 kr (rdo_call (nm := 7) rfl trivial (cf rfl) (c_BookOk' b) (rs_of rfl) rfl rfl rfl (rk0 2 rfl (q_not rfl) rfl (rk0 3 rfl (q_move rfl) rfl (rdk_partn (t := 9) rfl (fun h1 => ?_) (fun h1 => ?_))))))))))))))))
 ·try have hbd := book_bd h1
  refine rdk_skip 4 rfl kr ⟨_, rfl, .inl ⟨_, rfl, (nt h1)⟩⟩ rfl (rdk_skip 5 rfl kr ⟨_, rfl, .inl ⟨_, rfl, (nt h1)⟩⟩ rfl (rdk_skip 6 rfl kr ⟨_, rfl, .inl ⟨_, rfl, (nt h1)⟩⟩ rfl (rdk_skip 7 rfl kr ⟨_, rfl, .inl ⟨_, rfl, (nt h1)⟩⟩ rfl (rdk_skip 8 rfl kr ⟨_, rfl, .inl ⟨_, rfl, (nt h1)⟩⟩ rfl (rdk_skip 9 rfl kr ⟨_, rfl, .inl ⟨_, rfl, (nt h1)⟩⟩ rfl (rdk_skip 10 rfl kr ⟨_, rfl, .inl ⟨_, rfl, (nt h1)⟩⟩ rfl (rdk_skip 11 rfl kr ⟨_, rfl, .inl ⟨_, rfl, (nt h1)⟩⟩ rfl (rk0 12 rfl (q_pick_t rfl (nt h1) rfl) rfl (rdk_endq kr (et (ev_cond_kt rfl rfl (sq (rg (xo (q_build ttOk rfl) rfl (xst ttOk rfl rfl (xs rfl rfl (nl (et (ev_ret (evr_then (ret_pure' ttOk rfl rfl ?_)))))))))))))))))))))
  first
  | (rw [ent_no1 ‹_›] <;> rfl)
  | (rw [ent_no2 ‹_›] <;> rfl)
  | (rw [ent_yes ‹_› ‹_› hm1 hm2] <;> rfl)
 ·try have hbd := book_bd h1
  refine rdk_take 4 rfl kr ⟨_, _, rfl, rfl, (nf h1)⟩ (q_move rfl) rfl (rdk_take 5 rfl kr ⟨_, _, rfl, rfl, (nf h1)⟩ (q_fieldAddr ttOk rfl) rfl (rdk_take 6 rfl kr ⟨_, _, rfl, rfl, (nf h1)⟩ (q_load ttOk rfl) rfl (rdk_take 7 rfl kr ⟨_, _, rfl, rfl, (nf h1)⟩ (q_ar rfl rfl rfl om) rfl (rdk_take 8 rfl kr ⟨_, _, rfl, rfl, (nf h1)⟩ (q_load ttOk rfl) rfl (rdk_one 9 kr (rdo_call (nm := 15) rfl ⟨_, _, rfl, rfl, (nf h1)⟩ (cf rfl) (c_lastOf b ‹_›) (rs_of rfl) rfl rfl rfl (rdk_one 10 kr (rdo_call (nm := 16) rfl ⟨_, _, rfl, rfl, (nf h1)⟩ (cf rfl) (c_between _ _ _) (rs_of rfl) rfl rfl rfl (rdk_take 11 rfl kr ⟨_, _, rfl, rfl, (nf h1)⟩ (q_not rfl) rfl (rk0 12 rfl (q_pick_f rfl (nf h1) rfl) rfl (rdk_endq kr (et (ev_cond_n rfl (fun h2 => ?_) (fun h2 => ?_))))))))))))))
  ·refine sq (rg (xo (q_build ttOk rfl) rfl (xst ttOk rfl rfl (xs rfl rfl (nl (et (ev_ret (evr_then (ret_pure' ttOk rfl rfl ?_)))))))))
   first
   | (rw [ent_no1 ‹_›] <;> rfl)
   | (rw [ent_no2 ‹_›] <;> rfl)
   | (rw [ent_yes ‹_› ‹_› hm1 hm2] <;> rfl)
  ·refine ev_skip (et (sq ?_))
   have hrg := inB_iff.1 (show inB x (b.base + 1) (lastB b) = true by assumption)
   obtain ⟨m, hm1, hm2⟩ := at_get (b := b) (x := x) om hrg.2
   have hla : lastB b ≤ 4000 := by unfold lastB; omega
   refine rg (xf ttOk rfl rfl (xl ttOk rfl rfl (xm rfl rfl (xf ttOk rfl rfl (xl ttOk rfl rfl (xa rfl rfl rfl om rfl (xa rfl rfl rfl om rfl (xo (q_ix_map (m := m) ttOk rfl rfl rfl om om) rfl (xl ttOk rfl rfl (xst ttOk rfl rfl (xs rfl rfl (nl (et (ev_ret (ret_pure' ttOk rfl rfl ?_)))))))))))))))
   first
   | (rw [ent_no1 ‹_›] <;> rfl)
   | (rw [ent_no2 ‹_›] <;> rfl)
   | (rw [ent_yes ‹_› ‹_› hm1 hm2] <;> rfl)
theorem c_seenUpTo (h : Head) (b : Book) (x : Int) (hb : bookOk b = true) (hx : b.base ≤ x ∧ x ≤ lastB b) : Pure Tryz.prog 92 [many (headC h), many (bookC b), one (iC x)] [one' (marksR (seenOverF h.seen (b.entries.take (x - b.base).toNat)).1), one' (RC.v (.bool (seenOverF h.seen (b.entries.take (x - b.base).toNat)).2))] := by
 refine pure_intro (N := 20) Tryz.func92 rfl rfl rfl rfl (fun H w => ?_)
 have hbd := book_bd hb
 have hx2 : x ≤ b.base + b.entries.length := hx.2
 refine sq (rg (evl_e (e_box rfl rfl rfl rfl) (evl_e (e_box rfl rfl rfl rfl) (xs rfl rfl (xs rfl rfl (nl (et (sq (ev_drawq [] mo (rk0 0 rfl (q_fieldAddr ttOk rfl) rfl (rk0 1 rfl (q_load ttOk rfl) rfl (rk0 2 rfl (q_fieldAddr ttOk rfl) rfl (rk0 3 rfl (q_load ttOk rfl) rfl (rk0 4 rfl (q_move rfl) rfl (rk0 5 rfl (q_fieldAddr ttOk rfl) rfl (rk0 6 rfl (q_load ttOk rfl) rfl (rk0 7 rfl (q_ar rfl rfl rfl om) rfl (rk0 8 rfl (q_sl_to_map (k := (x - b.base).toNat) ttOk rfl rfl rfl om om) rfl (rdk_one 9 kr (rdo_call (nm := 17) rfl trivial (cf rfl) (c_SeenOver' h.seen (b.entries.take (x - b.base).toNat)) (rs_of rfl) rfl rfl rfl (rk0 10 rfl (q_ext rfl) rfl (rk0 11 rfl (q_ext rfl) rfl (rk0 12 rfl (q_assign rfl) rfl (rk0 13 rfl (q_assign rfl) rfl (rdk_endq kr (et (ev_ret (ret_pure' ttOk rfl rfl ?_))))))))))))))))))))))))))))
 rfl
theorem c_l12Owes (n : LogN) (hb : n.book.entries.length ≤ 1048576) (hd : 0 ≤ n.durable ∧ n.durable ≤ 1000000) : Pure Tryz.prog 101 [many (logC n)] (bR (owesF n)) := by
 refine pure_intro (N := 34) Tryz.func101 rfl rfl rfl rfl (fun H w => ?_)
 obtain ⟨L, hL⟩ : ∃ L, L = partF n.book (n.durable + 1) 2000 := ⟨_, rfl⟩
 have hc := c_l12Part n.book (n.durable + 1) 2000 hb
 rw [← hL] at hc
 refine ev_lena (t := 0) 18 rfl rfl (fun hO => ?_)
 have hLl : L.length ≤ n.book.entries.length := by rw [hL]; exact List.length_filter_le _ _
 refine sq (rg (evl_e (e_box rfl rfl rfl rfl) (xs rfl rfl (nl (et (sq (rg (xf ttOk rfl rfl (xl ttOk rfl rfl (xf ttOk rfl rfl (xl ttOk rfl rfl (xa rfl rfl rfl om rfl (evl_call (nm := 10) (cf rfl) hc (rs_of rfl) rfl rfl rfl (xs rfl rfl (nl (et (sq (sq (rg (xm rfl rfl (xo (q_len_rtm ttOk rfl rfl rfl) rfl (xf ttOk rfl rfl (xl ttOk rfl rfl (xo (q_len_map ttOk rfl rfl) rfl (xb ttOk rfl rfl (nl (et (ev_cond rfl (fun h1 => ?_) (fun h1 => ?_)))))))))))))))))))))))))))))
 ·have d1 := of_decide_eq_true h1
  refine sq (rg (xs rfl rfl (nl (et (ev_ret (evr_then (ret_pure' ttOk rfl rfl (congrArg bR (?_ : _ = _)))))))))
  rw [owes_len (by rw [← hL]; exact d1)]
 ·have d1 := of_decide_eq_false h1
  have hlen : L.length = n.owe.length := by omega
  refine ev_skip (et (sq (sq (rg (xs rfl rfl (nl (et (ev_blk (ev_loop (fun k : Nat => (⟨[(4, iV k), (1, .p false [.pb 1 0]), (3, .p false [.rt 101])], [(1, 55, [.c (rows n.two.a.kept), .c (writes n.two.a.wait), .c (rows n.two.b.kept), .c (writes n.two.b.wait), .c (iC n.head.num), .c (iC n.head.base), .c (iC n.head.time), .c (marks n.head.seen), .c (iC n.next.num), .c (iC n.next.base), .c (iC n.next.time), .c (marks n.next.seen), .c (bC n.more), .c (iC n.book.base), .c (iC n.book.time), .c (entries n.book.entries), .c (marks n.seen), .c (iC n.durable), .c (acks n.owe)])], [(101, 80, 9, (L.map entryC))], []⟩ : St)) (fun k => k ≤ n.owe.length ∧ (n.owe.take k).map Ack.nums = ((L.map ackF).take k).map Ack.nums) (fun k => n.owe.length - k) 0 [(101, 10)] (⟨by simp, by simp⟩) ⟨trf, trf, ⟨⟨_, rfl, by rfl⟩, trivial⟩, tre, rfl⟩ ?_)))))))))
  intro k hp
  obtain ⟨p0, p1⟩ := hp
  show Ev _ _ _ _ (⟨[(4, iV k), (1, .p false [.pb 1 0]), (3, .p false [.rt 101])], [(1, 55, [.c (rows n.two.a.kept), .c (writes n.two.a.wait), .c (rows n.two.b.kept), .c (writes n.two.b.wait), .c (iC n.head.num), .c (iC n.head.base), .c (iC n.head.time), .c (marks n.head.seen), .c (iC n.next.num), .c (iC n.next.base), .c (iC n.next.time), .c (marks n.next.seen), .c (bC n.more), .c (iC n.book.base), .c (iC n.book.time), .c (entries n.book.entries), .c (marks n.seen), .c (iC n.durable), .c (acks n.owe)])], [(101, 80, 9, (L.map entryC))], []⟩ : St)
  refine sq (sq (rg (xm rfl rfl (xm rfl rfl (xo (q_len_rtm ttOk rfl rfl rfl) rfl (xb ttOk rfl rfl (nl (et (ev_cond rfl (fun h2 => ?_) (fun h2 => ?_))))))))))
  ·have d2 := of_decide_eq_true h2
   refine ev_skip (et (sq (ev_blk (sq (ev_drawq [] mo (rk0 0 rfl (q_fieldAddr ttOk rfl) rfl (rk0 1 rfl (q_load ttOk rfl) rfl (rk0 2 rfl (q_move rfl) rfl (rk0 3 rfl (q_ix_map ttOk rfl rfl rfl rfl om) rfl (rk0 4 rfl (q_load ttOk rfl) rfl (rk0 5 rfl (q_move rfl) rfl (rk0 6 rfl (q_move rfl) rfl (rk0 7 rfl (q_ix_rt (m := k) ttOk rfl rfl rfl rfl rfl rfl (by simp; omega)) rfl (rk0 8 rfl (q_load_pr ttOk rfl rfl rfl rfl (get_map om) rfl rfl) rfl (rdk_one 9 kr (rdo_call (nm := 32) rfl trivial (cf rfl) (c_AckOf L[k]) (rs_of rfl) rfl rfl rfl ?_))))))))))))))))
   first | refine rk0 10 rfl (q_eqS (n := 4) kr rfl rfl rfl rfl rfl rfl rfl) rfl ?_ | refine rk0 10 rfl (q_bin ttOk rfl) rfl ?_
   refine rdk_endq kr (et (ev_cond rfl (fun h3 => ?_) (fun h3 => ?_)))
   ·have d3 := of_decide_eq_true h3
    refine sq (rg (xs rfl rfl (nl (et (ev_ret (evr_blk (evr_then (evr_then (evr_blk (evr_then (ret_pure' ttOk rfl rfl (congrArg bR (?_ : _ = _)))))))))))))
    rw [owes_at (k := k) hL om om d3]
   ·have d3 := of_decide_eq_false h3
    refine ev_skip (eb (et (rg (xm rfl rfl (xa rfl rfl rfl om rfl (xs rfl rfl (nl (eve_round (k + 1) [] ?hp ⟨trf, trf, ⟨⟨_, rfl, by rfl⟩, trivial⟩, tre, rfl⟩))))))))
    case hp => exact ⟨⟨by omega, owes_next om om p1 (Decidable.not_not.1 d3)⟩, by omega⟩
  ·have d2 := of_decide_eq_false h2
   refine ev_exit (evx_then (evx_then (evx_hit (et (sq (rg (xs rfl rfl (nl (et (ev_ret (ret_pure' ttOk rfl rfl (congrArg bR (?_ : _ = _)))))))))))))
   rw [owes_all hL om hlen p1]
end Go.Proofs.YtinmcdcmidlgpaaGreatDoor
