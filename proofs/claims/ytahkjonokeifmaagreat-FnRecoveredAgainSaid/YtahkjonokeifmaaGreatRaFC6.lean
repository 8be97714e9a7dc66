/- Walks of functions of the program, printed by a program of the prover. -/
import Derived.Test.YtahkjonokeifmaaGreatRaFC5
import Derived.Test.YtahkjonokeifmaaGreatRaVL
namespace Go.Proofs.YtahkjonokeifmaaGreat.Cur
open Go.ChangeShapes Go.WideShapes Go.ChangeAt Go.RowKit
set_option linter.unusedVariables false
set_option linter.unusedSimpArgs false
set_option maxHeartbeats 1000000
set_option maxRecDepth 100000
attribute [local irreducible] EvL Ev EvE Quiet Eff Pure RDk RDb RDo
theorem c_l10Draw  : Rolls Tryz.prog 108 71 [] (α := Two) (fun _ => True) (fun t => [many' (twoR (t))]) := by
 refine rolls_intro (N := 180) Tryz.func71 rfl rfl rfl rfl (fun H w g v0 bn δ0 hsrc => ?_)
 refine sq (rg (evl_e (e_alloc ttOk rfl rfl rfl rfl) (nl (et (sq (rg (evl_call (nm := 13) (cf rfl) c_NewKept (rs_of rfl) rfl rfl rfl (evl_e (e_alloc ttOk rfl rfl rfl rfl) (xst ttOk rfl rfl (nl (et (sq (rg (xm rfl rfl (evl_roll (nm := 15) (cf rfl) c_l10DrawHead rfl rfl hsrc (rs_of rfl) (fun _ => rfl) (fun h δ1 r1 => ?_))))))))))))))))
 refine rlk rfl rfl rfl ?_
 obtain ⟨hh1, hh2, hh3, hh4, hh5⟩ := r1
 refine evl_e (e_alloc ttOk rfl rfl rfl rfl) (xst ttOk rfl rfl (nl (et (sq (rg (xl ttOk rfl rfl (xl ttOk rfl rfl ?_)))))))
 first | refine evl_call (nm := 19) (cf rfl) (c_KeptHeadA newKeptF h) (rs_of rfl) rfl rfl rfl ?_ | refine evl_call (nm := 19) (cf rfl) (c_KeptHeadA t ⟨h.num + 1, h.base + 1, h.time, h.seen⟩) (rs_of rfl) rfl rfl rfl ?_ | refine evl_call (nm := 19) (cf rfl) (c_KeptHeadA t ⟨h.num + 1, h.base + 1, max h.time (es[0]'om).time, (markedF h.seen ⟨h.base + 1, max h.time (es[0]'om).time, (es[0]'om).client, mk2 + 1, (es[0]'om).kind, (es[0]'om).a, (es[0]'om).b, (es[0]'om).c, (es[0]'om).d⟩).1⟩) (rs_of rfl) rfl rfl rfl ?_
 refine xm rfl rfl (xo (q_ext rfl) rfl (xo (q_ext rfl) rfl (xst ttOk rfl rfl (nl (et (sq (sq (rg (xm rfl rfl (evl_roll (nm := 23) (cf rfl) (c_l1Once _) rfl rfl hsrc (rs_of rfl) (fun _ => rfl) (fun x2 δ2 r2 => ?_)))))))))))
 refine rlk rfl rfl rfl (xo (q_not rfl) rfl (nl (et (ev_joinI (α := Two) (fun y => True) (fun y => (⟨[(0, pbV 0 0), (2, pbV 2 0), (3, pbV 3 0), (4, pbV 4 0)], [(0, 108, diceA v0 δ2), (2, 32, [.c .nil, .c .nil, .c .nil, .c .nil]), (3, 32, [.rt 101, .rt 102, .rt 103, .rt 104]), (4, 36, [.c (iC h.num), .c (iC h.base), .c (iC h.time), .rt 15])], [(101, 45, 1, (y.a.kept.map fun r => [ints r])), (102, 103, 2, (y.a.wait.map fun x => [iC x.1, ints x.2])), (103, 45, 1, (y.b.kept.map fun r => [ints r])), (104, 103, 2, (y.b.wait.map fun x => [iC x.1, ints x.2])), (15, 76, 3, (h.seen.map markC))], []⟩ : St)) ?_ ?_))))
 ·refine ev_cond_n rfl (fun h3 => ?_) (fun h3 => ?_)
  ·try have d3 := of_decide_eq_false h3
   refine rg (xl ttOk rfl rfl ?_)
   first | refine evl_call (nm := 26) (cf rfl) (c_BothSynced (keptHeadF newKeptF h).1) (rs_of rfl) rfl rfl rfl ?_ | refine evl_call (nm := 26) (cf rfl) (c_BothSynced t2) (rs_of rfl) rfl rfl rfl ?_
   refine xst ttOk rfl rfl (nl ?_)
   exact ev_joinE (bothSyncF (keptHeadF newKeptF h).1) [(101, 26), (102, 1026), (103, 2026), (104, 3026)] trivial ⟨trf, trf, ⟨⟨_, rfl, by rfl⟩, ⟨_, rfl, by rfl⟩, ⟨_, rfl, by rfl⟩, ⟨_, rfl, by rfl⟩, ⟨_, rfl, by rfl⟩, trivial⟩, tre, rfl⟩
  ·try have d3 := of_decide_eq_true h3
   refine ev_skip ?_
   exact ev_joinE (keptHeadF newKeptF h).1 [(101, 19), (102, 1019), (103, 2019), (104, 3019)] trivial ⟨trf, trf, ⟨⟨_, rfl, by rfl⟩, ⟨_, rfl, by rfl⟩, ⟨_, rfl, by rfl⟩, ⟨_, rfl, by rfl⟩, ⟨_, rfl, by rfl⟩, trivial⟩, tre, rfl⟩
 ·intro t1 _
  show EvE _ _ _ (⟨[(0, pbV 0 0), (2, pbV 2 0), (3, pbV 3 0), (4, pbV 4 0)], [(0, 108, diceA v0 δ2), (2, 32, [.c .nil, .c .nil, .c .nil, .c .nil]), (3, 32, [.rt 101, .rt 102, .rt 103, .rt 104]), (4, 36, [.c (iC h.num), .c (iC h.base), .c (iC h.time), .rt 15])], [(101, 45, 1, (t1.a.kept.map fun r => [ints r])), (102, 103, 2, (t1.a.wait.map fun x => [iC x.1, ints x.2])), (103, 45, 1, (t1.b.kept.map fun r => [ints r])), (104, 103, 2, (t1.b.wait.map fun x => [iC x.1, ints x.2])), (15, 76, 3, (h.seen.map markC))], []⟩ : St)
  refine et (sq (ev_drawd [] g mo (rdd_pure 0 rfl kr trivial (qw_move rfl) rfl (rdd_pure 1 rfl kr trivial (qw_fieldAddr ttOk rfl) rfl (rdd_take 0 0 2 rfl kr trivial rfl rfl rfl rfl (q_load ttOk rfl) rfl rfl (rdd_pure 3 rfl kr trivial (qw_ar rfl rfl rfl om) rfl (rdd_pure 4 rfl kr trivial (qw_move rfl) rfl (rdd_1 5 kr (rddo_roll (nm := 32) 0 rfl trivial rfl rfl (cf rfl) (c_l1Below _) rfl rfl hsrc (rs_of rfl) (fun _ => rfl) (fun yk δ4 r4 => ?_))))))))))
  refine rdk rfl rfl rfl ?_
  obtain ⟨r4a, r4b⟩ := r4
  refine rdd_1 6 kr (rddo_roll (nm := 33) 0 rfl trivial rfl rfl (cf rfl) (c_l7DrawList (h.base + 1) yk yk.toNat om om ⟨by omega, by omega⟩) rfl rfl hsrc (rs_of rfl) (fun _ => rfl) (fun es δ5 r5 => ?_))
  refine rdk rfl rfl rfl ?_
  obtain ⟨hel, hei⟩ := r5
  refine rdd_pure 7 rfl kr trivial (qw_assign rfl) rfl (rdd_endq kr (et (sq (rg (xf ttOk rfl rfl (xl ttOk rfl rfl (evl_call (nm := 36) (cf rfl) (c_l9Copy h.seen om) (rs_of rfl) rfl rfl rfl (xs rfl rfl (nl (et (sq (rg (xf ttOk rfl rfl (xl ttOk rfl rfl (xs rfl rfl (nl (et (sq (sq ?_)))))))))))))))))))
  obtain ⟨δL, hδL⟩ : ∃ z, z = δ5 := ⟨_, rfl⟩
  rw [← hδL]
  refine rg (xs rfl rfl (nl (et (ev_blk (ev_loop (fun i : Nat × Two × List Mark × Int × DS bn => (⟨[(0, pbV 0 0), (2, pbV 2 0), (3, pbV 3 0), (4, pbV 4 0), (5, .p false [.rt 110]), (6, .p false [.rt 120]), (7, iV i.2.2.2.1), (8, iV i.1)], [(0, 108, diceA v0 i.2.2.2.2), (2, 32, [.c .nil, .c .nil, .c .nil, .c .nil]), (3, 32, [.rt 101, .rt 102, .rt 103, .rt 104]), (4, 36, [.c (iC h.num), .c (iC h.base), .c (iC h.time), .rt 15])], [(101, 45, 1, (i.2.1.a.kept.map fun r => [ints r])), (102, 103, 2, (i.2.1.a.wait.map fun x => [iC x.1, ints x.2])), (103, 45, 1, (i.2.1.b.kept.map fun r => [ints r])), (104, 103, 2, (i.2.1.b.wait.map fun x => [iC x.1, ints x.2])), (110, 62, 9, (es.map entryC)), (120, 76, 3, (i.2.2.1.map markC)), (15, 76, 3, (h.seen.map markC))], []⟩ : St)) (fun i => i.1 ≤ es.length) (fun i => es.length - i.1) (0, t1, h.seen, h.time, δL) [(110, 33), (120, 36)] (by simp) ⟨trf, trf, ⟨⟨_, rfl, by rfl⟩, ⟨_, rfl, by rfl⟩, ⟨_, rfl, by rfl⟩, ⟨_, rfl, by rfl⟩, ⟨_, rfl, by rfl⟩, ⟨_, rfl, by rfl⟩, ⟨_, rfl, by rfl⟩, trivial⟩, tre, rfl⟩ ?_)))))
  intro i hp
  obtain ⟨k, t, seen, last, δ⟩ := i
  have hp : k ≤ es.length := hp
  have p0 := hp
  show Ev _ _ _ _ (⟨[(0, pbV 0 0), (2, pbV 2 0), (3, pbV 3 0), (4, pbV 4 0), (5, .p false [.rt 110]), (6, .p false [.rt 120]), (7, iV last), (8, iV k)], [(0, 108, diceA v0 δ), (2, 32, [.c .nil, .c .nil, .c .nil, .c .nil]), (3, 32, [.rt 101, .rt 102, .rt 103, .rt 104]), (4, 36, [.c (iC h.num), .c (iC h.base), .c (iC h.time), .rt 15])], [(101, 45, 1, (t.a.kept.map fun r => [ints r])), (102, 103, 2, (t.a.wait.map fun x => [iC x.1, ints x.2])), (103, 45, 1, (t.b.kept.map fun r => [ints r])), (104, 103, 2, (t.b.wait.map fun x => [iC x.1, ints x.2])), (110, 62, 9, (es.map entryC)), (120, 76, 3, (seen.map markC)), (15, 76, 3, (h.seen.map markC))], []⟩ : St)
  refine sq (sq (rg (xm rfl rfl (xm rfl rfl (xo (q_len_rtm ttOk rfl rfl rfl) rfl (xb ttOk rfl rfl (nl (et (ev_cond rfl (fun h6 => ?_) (fun h6 => ?_))))))))))
  ·try have d6 := of_decide_eq_true h6
   refine ev_skip (et (sq (ev_blk (sq (rg (xm rfl rfl (xm rfl rfl (xo (q_ix_rt (m := k) ttOk rfl rfl rfl rfl rfl rfl (by simp; omega)) rfl (xo (q_load_pr ttOk rfl rfl rfl rfl (get_map om) rfl rfl) rfl (evl_e (e_alloc ttOk rfl rfl rfl rfl) (xst ttOk rfl rfl (nl (et (sq ?_))))))))))))))
   have hix := hei _ (List.getElem_mem (show k < es.length by omega))
   refine rg (xm rfl rfl (xf ttOk rfl rfl (xl ttOk rfl rfl (evl_call (nm := 52) (cf rfl) (c_l1Max _ _) (rs_of rfl) rfl rfl rfl (xs rfl rfl (nl (et (sq ?_))))))))
   generalize hln : max last (es[k]'om).time = ln
   refine rg (xm rfl rfl (xf ttOk rfl rfl (xst ttOk rfl rfl (nl (et (sq ?_))))))
   have cM := c_MarkOf seen (es[k]'om).client
   have hmk := mark_seq seen (es[k]'om).client
   generalize (if seenOk seen = true then findM seen (es[k]'om).client else noMark).seq = mk at cM hmk
   refine rg (xm rfl rfl (xf ttOk rfl rfl (xl ttOk rfl rfl ?_)))
   first | refine evl_call (nm := 58) (cf rfl) cM2 (rs_of rfl) rfl rfl rfl ?_ | refine evl_call (nm := 58) (cf rfl) cM (rs_of rfl) rfl rfl rfl ?_
   refine xo (q_field ttOk rfl) rfl (xa rfl rfl rfl om rfl (xf ttOk rfl rfl (xst ttOk rfl rfl (nl (et (sq (sq (rg (xm rfl rfl (evl_roll (nm := 63) (cf rfl) (c_l1Once _) rfl rfl hsrc (rs_of rfl) (fun _ => rfl) (fun x7 δ7 r7 => ?_)))))))))))
   refine rlk rfl rfl rfl (nl (et (ev_joinI (α := Int) (fun y => True) (fun y => (⟨[(0, pbV 0 0), (2, pbV 2 0), (3, pbV 3 0), (4, pbV 4 0), (5, .p false [.rt 110]), (6, .p false [.rt 120]), (7, iV ln), (8, iV k), (9, pbV 9 0)], [(9, 62, [.c (iC y), .c (iC ln), .c (iC (es[k]'om).client), .c (iC (mk + 1)), .c (iC (es[k]'om).kind), .c (iC (es[k]'om).a), .c (iC (es[k]'om).b), .c (iC (es[k]'om).c), .c (iC (es[k]'om).d)]), (0, 108, diceA v0 δ7), (2, 32, [.c .nil, .c .nil, .c .nil, .c .nil]), (3, 32, [.rt 101, .rt 102, .rt 103, .rt 104]), (4, 36, [.c (iC h.num), .c (iC h.base), .c (iC h.time), .rt 15])], [(101, 45, 1, (t.a.kept.map fun r => [ints r])), (102, 103, 2, (t.a.wait.map fun x => [iC x.1, ints x.2])), (103, 45, 1, (t.b.kept.map fun r => [ints r])), (104, 103, 2, (t.b.wait.map fun x => [iC x.1, ints x.2])), (110, 62, 9, (es.map entryC)), (120, 76, 3, (seen.map markC)), (15, 76, 3, (h.seen.map markC))], []⟩ : St)) ?_ ?_)))
   ·refine ev_cond rfl (fun h8 => ?_) (fun h8 => ?_)
    ·try have d8 := of_decide_eq_true h8
     refine rg (xf ttOk rfl rfl (xl ttOk rfl rfl (xa rfl rfl rfl om rfl (xf ttOk rfl rfl (xst ttOk rfl rfl (nl ?_))))))
     exact ev_joinE ((es[k]'om).index + 1) [] trivial ⟨trf, trf, ⟨⟨_, rfl, by rfl⟩, ⟨_, rfl, by rfl⟩, ⟨_, rfl, by rfl⟩, ⟨_, rfl, by rfl⟩, ⟨_, rfl, by rfl⟩, ⟨_, rfl, by rfl⟩, ⟨_, rfl, by rfl⟩, trivial⟩, tre, rfl⟩
    ·try have d8 := of_decide_eq_false h8
     refine ev_skip ?_
     exact ev_joinE (es[k]'om).index [] trivial ⟨trf, trf, ⟨⟨_, rfl, by rfl⟩, ⟨_, rfl, by rfl⟩, ⟨_, rfl, by rfl⟩, ⟨_, rfl, by rfl⟩, ⟨_, rfl, by rfl⟩, ⟨_, rfl, by rfl⟩, ⟨_, rfl, by rfl⟩, trivial⟩, tre, rfl⟩
   ·intro ix _
    show EvE _ _ _ (⟨[(0, pbV 0 0), (2, pbV 2 0), (3, pbV 3 0), (4, pbV 4 0), (5, .p false [.rt 110]), (6, .p false [.rt 120]), (7, iV ln), (8, iV k), (9, pbV 9 0)], [(9, 62, [.c (iC ix), .c (iC ln), .c (iC (es[k]'om).client), .c (iC (mk + 1)), .c (iC (es[k]'om).kind), .c (iC (es[k]'om).a), .c (iC (es[k]'om).b), .c (iC (es[k]'om).c), .c (iC (es[k]'om).d)]), (0, 108, diceA v0 δ7), (2, 32, [.c .nil, .c .nil, .c .nil, .c .nil]), (3, 32, [.rt 101, .rt 102, .rt 103, .rt 104]), (4, 36, [.c (iC h.num), .c (iC h.base), .c (iC h.time), .rt 15])], [(101, 45, 1, (t.a.kept.map fun r => [ints r])), (102, 103, 2, (t.a.wait.map fun x => [iC x.1, ints x.2])), (103, 45, 1, (t.b.kept.map fun r => [ints r])), (104, 103, 2, (t.b.wait.map fun x => [iC x.1, ints x.2])), (110, 62, 9, (es.map entryC)), (120, 76, 3, (seen.map markC)), (15, 76, 3, (h.seen.map markC))], []⟩ : St)
    refine et (sq (rg (xl ttOk rfl rfl (xl ttOk rfl rfl (evl_call (nm := 71) (cf rfl) (c_KeptEntryA t ⟨ix, ln, (es[k]'om).client, mk + 1, (es[k]'om).kind, (es[k]'om).a, (es[k]'om).b, (es[k]'om).c, (es[k]'om).d⟩) (rs_of rfl) rfl rfl rfl (xm rfl rfl (xo (q_ext rfl) rfl (xo (q_ext rfl) rfl (xst ttOk rfl rfl (nl (et (sq (rg (xm rfl rfl (xl ttOk rfl rfl ?_)))))))))))))))
    first | refine evl_call (nm := 77) (cf rfl) (c_Marked seen ⟨ix, ln, (es[k]'om).client, mk + 1, (es[k]'om).kind, (es[k]'om).a, (es[k]'om).b, (es[k]'om).c, (es[k]'om).d⟩) (rs_of rfl) rfl rfl rfl ?_ | refine evl_call (nm := 77) (cf rfl) (c_Marked h.seen ⟨h.base + 1, max h.time (es[0]'om).time, (es[0]'om).client, mk2 + 1, (es[0]'om).kind, (es[0]'om).a, (es[0]'om).b, (es[0]'om).c, (es[0]'om).d⟩) (rs_of rfl) rfl rfl rfl ?_
    refine xm rfl rfl (xo (q_ext rfl) rfl (xo (q_ext rfl) rfl (xs rfl rfl (xs rfl rfl (nl (et (sq (sq (rg (xm rfl rfl (nl (et (ev_joinI (α := Two × List Mark) (fun i => True) (fun i => (⟨[(0, pbV 0 0), (2, pbV 2 0), (3, pbV 3 0), (4, pbV 4 0), (5, .p false [.rt 110]), (6, .p false [.rt 120]), (7, iV ln), (8, iV k)], [(0, 108, diceA v0 δ7), (2, 32, [.c .nil, .c .nil, .c .nil, .c .nil]), (3, 32, [.rt 101, .rt 102, .rt 103, .rt 104]), (4, 36, [.c (iC h.num), .c (iC h.base), .c (iC h.time), .rt 15])], [(101, 45, 1, (i.1.a.kept.map fun r => [ints r])), (102, 103, 2, (i.1.a.wait.map fun x => [iC x.1, ints x.2])), (103, 45, 1, (i.1.b.kept.map fun r => [ints r])), (104, 103, 2, (i.1.b.wait.map fun x => [iC x.1, ints x.2])), (110, 62, 9, (es.map entryC)), (120, 76, 3, (i.2.map markC)), (15, 76, 3, (h.seen.map markC))], []⟩ : St)) ?_ ?_)))))))))))))
    ·refine ev_cond rfl (fun h9 => ?_) (fun h9 => ?_)
     ·try have d9 := of_decide_eq_true h9
      refine rg (xm rfl rfl (xs rfl rfl (nl ?_)))
      exact ev_joinE ((keptEntryF t ⟨ix, ln, (es[k]'om).client, mk + 1, (es[k]'om).kind, (es[k]'om).a, (es[k]'om).b, (es[k]'om).c, (es[k]'om).d⟩).1, (markedF seen ⟨ix, ln, (es[k]'om).client, mk + 1, (es[k]'om).kind, (es[k]'om).a, (es[k]'om).b, (es[k]'om).c, (es[k]'om).d⟩).1) [(101, 71), (102, 1071), (103, 2071), (104, 3071), (120, 77)] trivial ⟨trf, trf, ⟨⟨_, rfl, by rfl⟩, ⟨_, rfl, by rfl⟩, ⟨_, rfl, by rfl⟩, ⟨_, rfl, by rfl⟩, ⟨_, rfl, by rfl⟩, ⟨_, rfl, by rfl⟩, ⟨_, rfl, by rfl⟩, trivial⟩, tre, rfl⟩
     ·try have d9 := of_decide_eq_false h9
      refine ev_skip ?_
      exact ev_joinE ((keptEntryF t ⟨ix, ln, (es[k]'om).client, mk + 1, (es[k]'om).kind, (es[k]'om).a, (es[k]'om).b, (es[k]'om).c, (es[k]'om).d⟩).1, seen) [(101, 71), (102, 1071), (103, 2071), (104, 3071)] trivial ⟨trf, trf, ⟨⟨_, rfl, by rfl⟩, ⟨_, rfl, by rfl⟩, ⟨_, rfl, by rfl⟩, ⟨_, rfl, by rfl⟩, ⟨_, rfl, by rfl⟩, ⟨_, rfl, by rfl⟩, ⟨_, rfl, by rfl⟩, trivial⟩, tre, rfl⟩
    ·rintro ⟨t2, sn3⟩ _
     show EvE _ _ _ (⟨[(0, pbV 0 0), (2, pbV 2 0), (3, pbV 3 0), (4, pbV 4 0), (5, .p false [.rt 110]), (6, .p false [.rt 120]), (7, iV ln), (8, iV k)], [(0, 108, diceA v0 δ7), (2, 32, [.c .nil, .c .nil, .c .nil, .c .nil]), (3, 32, [.rt 101, .rt 102, .rt 103, .rt 104]), (4, 36, [.c (iC h.num), .c (iC h.base), .c (iC h.time), .rt 15])], [(101, 45, 1, (t2.a.kept.map fun r => [ints r])), (102, 103, 2, (t2.a.wait.map fun x => [iC x.1, ints x.2])), (103, 45, 1, (t2.b.kept.map fun r => [ints r])), (104, 103, 2, (t2.b.wait.map fun x => [iC x.1, ints x.2])), (110, 62, 9, (es.map entryC)), (120, 76, 3, (sn3.map markC)), (15, 76, 3, (h.seen.map markC))], []⟩ : St)
     refine et (sq (rg (xm rfl rfl (evl_roll (nm := 83) (cf rfl) (c_l1Below _) rfl rfl hsrc (rs_of rfl) (fun _ => rfl) (fun x10 δ10 r10 => ?_)))))
     refine rlk rfl rfl rfl ?_
     obtain ⟨r10a, r10b⟩ := r10
     refine nl (et (ev_joinI (α := Two × DS bn) (fun i => True) (fun i => (⟨[(0, pbV 0 0), (2, pbV 2 0), (3, pbV 3 0), (4, pbV 4 0), (5, .p false [.rt 110]), (6, .p false [.rt 120]), (7, iV ln), (8, iV k)], [(0, 108, diceA v0 i.2), (2, 32, [.c .nil, .c .nil, .c .nil, .c .nil]), (3, 32, [.rt 101, .rt 102, .rt 103, .rt 104]), (4, 36, [.c (iC h.num), .c (iC h.base), .c (iC h.time), .rt 15])], [(101, 45, 1, (i.1.a.kept.map fun r => [ints r])), (102, 103, 2, (i.1.a.wait.map fun x => [iC x.1, ints x.2])), (103, 45, 1, (i.1.b.kept.map fun r => [ints r])), (104, 103, 2, (i.1.b.wait.map fun x => [iC x.1, ints x.2])), (110, 62, 9, (es.map entryC)), (120, 76, 3, (sn3.map markC)), (15, 76, 3, (h.seen.map markC))], []⟩ : St)) ?_ ?_))
     ·refine ev_blk (sq (sq (rg (xb ttOk rfl rfl (xs rfl rfl (nl (et (ev_cond rfl (fun h11 => ?_) (fun h11 => ?_)))))))))
      ·try have d11 := of_decide_eq_true h11
       refine ev_skip (et (ev_cond_kt rfl h11 (rg (xl ttOk rfl rfl ?_))))
       first | refine evl_call (nm := 89) (cf rfl) (c_BothSynced (keptHeadF newKeptF h).1) (rs_of rfl) rfl rfl rfl ?_ | refine evl_call (nm := 89) (cf rfl) (c_BothSynced t2) (rs_of rfl) rfl rfl rfl ?_
       refine xst ttOk rfl rfl (nl (eb ?_))
       exact ev_joinE ((bothSyncF t2), δ10) [(101, 89), (102, 1089), (103, 2089), (104, 3089)] trivial ⟨trf, trf, ⟨⟨_, rfl, by rfl⟩, ⟨_, rfl, by rfl⟩, ⟨_, rfl, by rfl⟩, ⟨_, rfl, by rfl⟩, ⟨_, rfl, by rfl⟩, ⟨_, rfl, by rfl⟩, ⟨_, rfl, by rfl⟩, trivial⟩, tre, rfl⟩
      ·try have d11 := of_decide_eq_false h11
       refine sq (rg (xb ttOk rfl rfl (xs rfl rfl (nl (et (ev_cond rfl (fun h12 => ?_) (fun h12 => ?_)))))))
       ·try have d12 := of_decide_eq_true h12
        refine ev_skip (et (ev_cond_kt rfl h12 (rg (xl ttOk rfl rfl ?_))))
        first | refine evl_call (nm := 89) (cf rfl) (c_BothSynced (keptHeadF newKeptF h).1) (rs_of rfl) rfl rfl rfl ?_ | refine evl_call (nm := 89) (cf rfl) (c_BothSynced t2) (rs_of rfl) rfl rfl rfl ?_
        refine xst ttOk rfl rfl (nl (eb ?_))
        exact ev_joinE ((bothSyncF t2), δ10) [(101, 89), (102, 1089), (103, 2089), (104, 3089)] trivial ⟨trf, trf, ⟨⟨_, rfl, by rfl⟩, ⟨_, rfl, by rfl⟩, ⟨_, rfl, by rfl⟩, ⟨_, rfl, by rfl⟩, ⟨_, rfl, by rfl⟩, ⟨_, rfl, by rfl⟩, ⟨_, rfl, by rfl⟩, trivial⟩, tre, rfl⟩
       ·try have d12 := of_decide_eq_false h12
        refine rg (xb ttOk rfl rfl (xs rfl rfl (nl (et (ev_cond rfl (fun h13 => ?_) (fun h13 => ?_))))))
        ·try have d13 := of_decide_eq_true h13
         refine rg (xl ttOk rfl rfl ?_)
         first | refine evl_call (nm := 89) (cf rfl) (c_BothSynced (keptHeadF newKeptF h).1) (rs_of rfl) rfl rfl rfl ?_ | refine evl_call (nm := 89) (cf rfl) (c_BothSynced t2) (rs_of rfl) rfl rfl rfl ?_
         refine xst ttOk rfl rfl (nl (eb ?_))
         exact ev_joinE ((bothSyncF t2), δ10) [(101, 89), (102, 1089), (103, 2089), (104, 3089)] trivial ⟨trf, trf, ⟨⟨_, rfl, by rfl⟩, ⟨_, rfl, by rfl⟩, ⟨_, rfl, by rfl⟩, ⟨_, rfl, by rfl⟩, ⟨_, rfl, by rfl⟩, ⟨_, rfl, by rfl⟩, ⟨_, rfl, by rfl⟩, trivial⟩, tre, rfl⟩
        ·try have d13 := of_decide_eq_false h13
         refine sq (rg (xb ttOk rfl rfl (xs rfl rfl (nl (et (ev_cond rfl (fun h14 => ?_) (fun h14 => ?_)))))))
         ·try have d14 := of_decide_eq_true h14
          refine ev_drawd [4] g mo (rdd_take 0 0 0 rfl kr trivial rfl rfl rfl rfl (q_load ttOk rfl) rfl rfl (rdd_pure 1 rfl kr trivial (qw_move rfl) rfl (rdd_1 2 kr (rddo_roll (nm := 94) 0 rfl trivial rfl rfl (cf rfl) c_l3DrawFates rfl rfl hsrc (rs_of rfl) (fun _ => rfl) (fun G δ15 r15 => ?_)))))
          refine rdk rfl rfl rfl ?_
          have hG : G.length ≤ 1048576 := by have := r15; omega
          refine rdd_1 3 kr ?_
          first | refine rddo_call (nm := 95) rfl trivial (cf rfl) (c_BothFallen t2 G hG) (rs_of rfl) rfl rfl rfl ?_ | refine rddo_call (nm := 95) rfl trivial (cf rfl) (c_BothFallen t5 G hG) (rs_of rfl) rfl rfl rfl ?_
          refine rdd_1 4 kr (rddo_brk rfl kr trivial (e_store ttOk rfl) (rdd_endq kr (eb ?_)))
          exact ev_joinE ((bothFallenF t2 G), δ15) [(101, 95), (102, 1095), (103, 2095), (104, 3095)] trivial ⟨trf, trf, ⟨⟨_, rfl, by rfl⟩, ⟨_, rfl, by rfl⟩, ⟨_, rfl, by rfl⟩, ⟨_, rfl, by rfl⟩, ⟨_, rfl, by rfl⟩, ⟨_, rfl, by rfl⟩, ⟨_, rfl, by rfl⟩, trivial⟩, tre, rfl⟩
         ·try have d14 := of_decide_eq_false h14
          refine ev_skip (eb ?_)
          exact ev_joinE (t2, δ10) [] trivial ⟨trf, trf, ⟨⟨_, rfl, by rfl⟩, ⟨_, rfl, by rfl⟩, ⟨_, rfl, by rfl⟩, ⟨_, rfl, by rfl⟩, ⟨_, rfl, by rfl⟩, ⟨_, rfl, by rfl⟩, ⟨_, rfl, by rfl⟩, trivial⟩, tre, rfl⟩
     ·rintro ⟨t3, δ3⟩ _
      show EvE _ _ _ (⟨[(0, pbV 0 0), (2, pbV 2 0), (3, pbV 3 0), (4, pbV 4 0), (5, .p false [.rt 110]), (6, .p false [.rt 120]), (7, iV ln), (8, iV k)], [(0, 108, diceA v0 δ3), (2, 32, [.c .nil, .c .nil, .c .nil, .c .nil]), (3, 32, [.rt 101, .rt 102, .rt 103, .rt 104]), (4, 36, [.c (iC h.num), .c (iC h.base), .c (iC h.time), .rt 15])], [(101, 45, 1, (t3.a.kept.map fun r => [ints r])), (102, 103, 2, (t3.a.wait.map fun x => [iC x.1, ints x.2])), (103, 45, 1, (t3.b.kept.map fun r => [ints r])), (104, 103, 2, (t3.b.wait.map fun x => [iC x.1, ints x.2])), (110, 62, 9, (es.map entryC)), (120, 76, 3, (sn3.map markC)), (15, 76, 3, (h.seen.map markC))], []⟩ : St)
      refine eb (et (rg (xm rfl rfl (xa rfl rfl rfl om rfl (xs rfl rfl (nl (eve_round (k + 1, t3, sn3, ln, δ3) [] ?hp ⟨trf, trf, ⟨⟨_, rfl, by rfl⟩, ⟨_, rfl, by rfl⟩, ⟨_, rfl, by rfl⟩, ⟨_, rfl, by rfl⟩, ⟨_, rfl, by rfl⟩, ⟨_, rfl, by rfl⟩, ⟨_, rfl, by rfl⟩, trivial⟩, tre, rfl⟩)))))))
      case hp => exact ⟨by omega, by omega⟩
  ·try have d6 := of_decide_eq_false h6
   refine ev_exit (evx_then (evx_then (evx_hit (et (sq (sq (rg (xm rfl rfl (evl_roll (nm := 97) (cf rfl) (c_l1Once _) rfl rfl hsrc (rs_of rfl) (fun _ => rfl) (fun x16 δ16 r16 => ?_))))))))))
   refine rlk rfl rfl rfl (nl (et (ev_joinI (α := Two) (fun y => True) (fun y => (⟨[(0, pbV 0 0), (2, pbV 2 0), (3, pbV 3 0)], [(0, 108, diceA v0 δ16), (2, 32, [.c .nil, .c .nil, .c .nil, .c .nil]), (3, 32, [.rt 101, .rt 102, .rt 103, .rt 104])], [(101, 45, 1, (y.a.kept.map fun r => [ints r])), (102, 103, 2, (y.a.wait.map fun x => [iC x.1, ints x.2])), (103, 45, 1, (y.b.kept.map fun r => [ints r])), (104, 103, 2, (y.b.wait.map fun x => [iC x.1, ints x.2]))], []⟩ : St)) ?_ ?_)))
   ·refine ev_cond rfl (fun h17 => ?_) (fun h17 => ?_)
    ·try have d17 := of_decide_eq_true h17
     refine sq (rg (xf ttOk rfl rfl (xl ttOk rfl rfl (xa rfl rfl rfl om rfl (xf ttOk rfl rfl (xl ttOk rfl rfl (xa rfl rfl rfl om rfl (xf ttOk rfl rfl (xl ttOk rfl rfl (xf ttOk rfl rfl (xl ttOk rfl rfl (xo (q_build ttOk rfl) rfl (evl_e (e_alloc ttOk rfl rfl rfl rfl) (xst ttOk rfl rfl (nl (et (sq (sq (rg (xm rfl rfl (xo (q_len_rtm ttOk rfl rfl rfl) rfl (xb ttOk rfl rfl (nl (et (ev_cond rfl (fun h18 => ?_) (fun h18 => ?_))))))))))))))))))))))))))
     ·try have d18 := of_decide_eq_true h18
      refine sq (ev_drawq [8] mo (rk0 0 rfl (q_fieldAddr ttOk rfl) rfl (rk0 1 rfl (q_load ttOk rfl) rfl (rk0 2 rfl (q_move rfl) rfl (rk0 3 rfl (q_ix_rt (m := 0) ttOk rfl rfl rfl rfl rfl rfl (by simp; omega)) rfl (rk0 4 rfl (q_fieldAddr ttOk rfl) rfl (rk0 5 rfl (q_load_pr ttOk rfl rfl rfl rfl (get_map om) rfl rfl) rfl (rdk_one 6 kr (rdo_call (nm := 118) rfl trivial (cf rfl) (c_l1Max _ _) (rs_of rfl) rfl rfl rfl (rk0 7 rfl (q_fieldAddr ttOk rfl) rfl (rdk_one 8 kr (rdo_brk rfl rfl trivial (e_store ttOk rfl) (rdb_endq kr (et ?_))))))))))))))
      have cM2 := c_MarkOf h.seen (es[0]'om).client
      have hmk2 := mark_seq h.seen (es[0]'om).client
      generalize (if seenOk h.seen = true then findM h.seen (es[0]'om).client else noMark).seq = mk2 at cM2 hmk2
      refine ev_drawq [30] mo (rk0 0 rfl (q_fieldAddr ttOk rfl) rfl (rk0 1 rfl (q_load ttOk rfl) rfl (rk0 2 rfl (q_fieldAddr ttOk rfl) rfl (rk0 3 rfl (q_load ttOk rfl) rfl (rk0 4 rfl (q_ar rfl rfl rfl om) rfl (rk0 5 rfl (q_fieldAddr ttOk rfl) rfl (rk0 6 rfl (q_load ttOk rfl) rfl (rk0 7 rfl (q_move rfl) rfl (rk0 8 rfl (q_ix_rt (m := 0) ttOk rfl rfl rfl rfl rfl rfl (by simp; omega)) rfl (rk0 9 rfl (q_fieldAddr ttOk rfl) rfl (rk0 10 rfl (q_load_pr ttOk rfl rfl rfl rfl (get_map om) rfl rfl) rfl (rk0 11 rfl (q_fieldAddr ttOk rfl) rfl (rk0 12 rfl (q_load ttOk rfl) rfl (rk0 13 rfl (q_move rfl) rfl (rk0 14 rfl (q_ix_rt (m := 0) ttOk rfl rfl rfl rfl rfl rfl (by simp; omega)) rfl (rk0 15 rfl (q_fieldAddr ttOk rfl) rfl (rk0 16 rfl (q_load_pr ttOk rfl rfl rfl rfl (get_map om) rfl rfl) rfl (rk0 20 rfl (q_move rfl) rfl (rk0 21 rfl (q_ix_rt (m := 0) ttOk rfl rfl rfl rfl rfl rfl (by simp; omega)) rfl (rk0 22 rfl (q_fieldAddr ttOk rfl) rfl (rk0 23 rfl (q_load_pr ttOk rfl rfl rfl rfl (get_map om) rfl rfl) rfl (rdk_one 17 kr ?_))))))))))))))))))))))
      first | refine rdo_call (nm := 138) rfl trivial (cf rfl) cM2 (rs_of rfl) rfl rfl rfl ?_ | refine rdo_call (nm := 138) rfl trivial (cf rfl) cM (rs_of rfl) rfl rfl rfl ?_
      refine rk0 18 rfl (q_field ttOk rfl) rfl (rk0 19 rfl (q_ar rfl rfl rfl om) rfl (rk0 24 rfl (q_build ttOk rfl) rfl (rdk_one 25 kr ?_)))
      first | refine rdo_call (nm := 146) rfl trivial (cf rfl) (c_Marked seen ⟨ix, ln, (es[k]'om).client, mk + 1, (es[k]'om).kind, (es[k]'om).a, (es[k]'om).b, (es[k]'om).c, (es[k]'om).d⟩) (rs_of rfl) rfl rfl rfl ?_ | refine rdo_call (nm := 146) rfl trivial (cf rfl) (c_Marked h.seen ⟨h.base + 1, max h.time (es[0]'om).time, (es[0]'om).client, mk2 + 1, (es[0]'om).kind, (es[0]'om).a, (es[0]'om).b, (es[0]'om).c, (es[0]'om).d⟩) (rs_of rfl) rfl rfl rfl ?_
      refine rk0 26 rfl (q_move rfl) rfl (rk0 27 rfl (q_ext rfl) rfl (rdk_pure 28 rfl kr trivial (qw_ext rfl) rfl (rk0 29 rfl (q_fieldAddr ttOk rfl) rfl (rdk_one 30 kr (rdo_brk rfl rfl trivial (e_store ttOk rfl) (rdb_endq kr (et (sq (rg (xl ttOk rfl rfl ?_))))))))))
      first | refine evl_call (nm := 151) (cf rfl) (c_HeadOk ⟨h.num + 1, h.base + 1, h.time, h.seen⟩) (rs_of rfl) rfl rfl rfl ?_ | refine evl_call (nm := 151) (cf rfl) (c_HeadOk ⟨h.num + 1, h.base + 1, max h.time (es[0]'om).time, (markedF h.seen ⟨h.base + 1, max h.time (es[0]'om).time, (es[0]'om).client, mk2 + 1, (es[0]'om).kind, (es[0]'om).a, (es[0]'om).b, (es[0]'om).c, (es[0]'om).d⟩).1⟩) (rs_of rfl) rfl rfl rfl ?_
      refine nl (et (ev_cond rfl (fun h19 => ?_) (fun h19 => ?_)))
      ·try have d19 := of_decide_eq_true h19
       refine rg (xl ttOk rfl rfl (xl ttOk rfl rfl ?_))
       first | refine evl_call (nm := 155) (cf rfl) (c_KeptHeadA newKeptF h) (rs_of rfl) rfl rfl rfl ?_ | refine evl_call (nm := 155) (cf rfl) (c_KeptHeadA t ⟨h.num + 1, h.base + 1, h.time, h.seen⟩) (rs_of rfl) rfl rfl rfl ?_ | refine evl_call (nm := 155) (cf rfl) (c_KeptHeadA t ⟨h.num + 1, h.base + 1, max h.time (es[0]'om).time, (markedF h.seen ⟨h.base + 1, max h.time (es[0]'om).time, (es[0]'om).client, mk2 + 1, (es[0]'om).kind, (es[0]'om).a, (es[0]'om).b, (es[0]'om).c, (es[0]'om).d⟩).1⟩) (rs_of rfl) rfl rfl rfl ?_
       refine xm rfl rfl (xo (q_ext rfl) rfl (xo (q_ext rfl) rfl (xst ttOk rfl rfl (nl ?_))))
       exact ev_joinE (keptHeadF t ⟨h.num + 1, h.base + 1, max h.time (es[0]'om).time, (markedF h.seen ⟨h.base + 1, max h.time (es[0]'om).time, (es[0]'om).client, mk2 + 1, (es[0]'om).kind, (es[0]'om).a, (es[0]'om).b, (es[0]'om).c, (es[0]'om).d⟩).1⟩).1 [(101, 155), (102, 1155), (103, 2155), (104, 3155)] trivial ⟨trf, trf, ⟨⟨_, rfl, by rfl⟩, ⟨_, rfl, by rfl⟩, ⟨_, rfl, by rfl⟩, ⟨_, rfl, by rfl⟩, trivial⟩, tre, rfl⟩
      ·try have d19 := of_decide_eq_false h19
       refine ev_skip ?_
       exact ev_joinE t [] trivial ⟨trf, trf, ⟨⟨_, rfl, by rfl⟩, ⟨_, rfl, by rfl⟩, ⟨_, rfl, by rfl⟩, ⟨_, rfl, by rfl⟩, trivial⟩, tre, rfl⟩
     ·try have d18 := of_decide_eq_false h18
      refine ev_skip (et (sq (rg (xl ttOk rfl rfl ?_))))
      first | refine evl_call (nm := 151) (cf rfl) (c_HeadOk ⟨h.num + 1, h.base + 1, h.time, h.seen⟩) (rs_of rfl) rfl rfl rfl ?_ | refine evl_call (nm := 151) (cf rfl) (c_HeadOk ⟨h.num + 1, h.base + 1, max h.time (es[0]'om).time, (markedF h.seen ⟨h.base + 1, max h.time (es[0]'om).time, (es[0]'om).client, mk2 + 1, (es[0]'om).kind, (es[0]'om).a, (es[0]'om).b, (es[0]'om).c, (es[0]'om).d⟩).1⟩) (rs_of rfl) rfl rfl rfl ?_
      refine nl (et (ev_cond rfl (fun h20 => ?_) (fun h20 => ?_)))
      ·try have d20 := of_decide_eq_true h20
       refine rg (xl ttOk rfl rfl (xl ttOk rfl rfl ?_))
       first | refine evl_call (nm := 155) (cf rfl) (c_KeptHeadA newKeptF h) (rs_of rfl) rfl rfl rfl ?_ | refine evl_call (nm := 155) (cf rfl) (c_KeptHeadA t ⟨h.num + 1, h.base + 1, h.time, h.seen⟩) (rs_of rfl) rfl rfl rfl ?_ | refine evl_call (nm := 155) (cf rfl) (c_KeptHeadA t ⟨h.num + 1, h.base + 1, max h.time (es[0]'om).time, (markedF h.seen ⟨h.base + 1, max h.time (es[0]'om).time, (es[0]'om).client, mk2 + 1, (es[0]'om).kind, (es[0]'om).a, (es[0]'om).b, (es[0]'om).c, (es[0]'om).d⟩).1⟩) (rs_of rfl) rfl rfl rfl ?_
       refine xm rfl rfl (xo (q_ext rfl) rfl (xo (q_ext rfl) rfl (xst ttOk rfl rfl (nl ?_))))
       exact ev_joinE (keptHeadF t ⟨h.num + 1, h.base + 1, h.time, h.seen⟩).1 [(101, 155), (102, 1155), (103, 2155), (104, 3155)] trivial ⟨trf, trf, ⟨⟨_, rfl, by rfl⟩, ⟨_, rfl, by rfl⟩, ⟨_, rfl, by rfl⟩, ⟨_, rfl, by rfl⟩, trivial⟩, tre, rfl⟩
      ·try have d20 := of_decide_eq_false h20
       refine ev_skip ?_
       exact ev_joinE t [] trivial ⟨trf, trf, ⟨⟨_, rfl, by rfl⟩, ⟨_, rfl, by rfl⟩, ⟨_, rfl, by rfl⟩, ⟨_, rfl, by rfl⟩, trivial⟩, tre, rfl⟩
    ·try have d17 := of_decide_eq_false h17
     refine ev_skip ?_
     exact ev_joinE t [] trivial ⟨trf, trf, ⟨⟨_, rfl, by rfl⟩, ⟨_, rfl, by rfl⟩, ⟨_, rfl, by rfl⟩, ⟨_, rfl, by rfl⟩, trivial⟩, tre, rfl⟩
   ·intro t5 _
    show EvE _ _ _ (⟨[(0, pbV 0 0), (2, pbV 2 0), (3, pbV 3 0)], [(0, 108, diceA v0 δ16), (2, 32, [.c .nil, .c .nil, .c .nil, .c .nil]), (3, 32, [.rt 101, .rt 102, .rt 103, .rt 104])], [(101, 45, 1, (t5.a.kept.map fun r => [ints r])), (102, 103, 2, (t5.a.wait.map fun x => [iC x.1, ints x.2])), (103, 45, 1, (t5.b.kept.map fun r => [ints r])), (104, 103, 2, (t5.b.wait.map fun x => [iC x.1, ints x.2]))], []⟩ : St)
    refine et (sq (sq (rg (xm rfl rfl (evl_roll (nm := 159) (cf rfl) (c_l1Once _) rfl rfl hsrc (rs_of rfl) (fun _ => rfl) (fun x21 δ21 r21 => ?_))))))
    refine rlk rfl rfl rfl (nl (et (ev_joinI (α := Two × DS bn) (fun i => True) (fun i => (⟨[(0, pbV 0 0), (2, pbV 2 0), (3, pbV 3 0)], [(0, 108, diceA v0 i.2), (2, 32, [.c .nil, .c .nil, .c .nil, .c .nil]), (3, 32, [.rt 101, .rt 102, .rt 103, .rt 104])], [(101, 45, 1, (i.1.a.kept.map fun r => [ints r])), (102, 103, 2, (i.1.a.wait.map fun x => [iC x.1, ints x.2])), (103, 45, 1, (i.1.b.kept.map fun r => [ints r])), (104, 103, 2, (i.1.b.wait.map fun x => [iC x.1, ints x.2]))], []⟩ : St)) ?_ ?_)))
    ·refine ev_cond rfl (fun h22 => ?_) (fun h22 => ?_)
     ·try have d22 := of_decide_eq_true h22
      refine ev_drawd [4] g mo (rdd_take 0 0 0 rfl kr trivial rfl rfl rfl rfl (q_load ttOk rfl) rfl rfl (rdd_pure 1 rfl kr trivial (qw_move rfl) rfl (rdd_1 2 kr (rddo_roll (nm := 162) 0 rfl trivial rfl rfl (cf rfl) c_l3DrawFates rfl rfl hsrc (rs_of rfl) (fun _ => rfl) (fun G δ23 r23 => ?_)))))
      refine rdk rfl rfl rfl ?_
      have hG : G.length ≤ 1048576 := by have := r23; omega
      refine rdd_1 3 kr ?_
      first | refine rddo_call (nm := 163) rfl trivial (cf rfl) (c_BothFallen t2 G hG) (rs_of rfl) rfl rfl rfl ?_ | refine rddo_call (nm := 163) rfl trivial (cf rfl) (c_BothFallen t5 G hG) (rs_of rfl) rfl rfl rfl ?_
      refine rdd_1 4 kr (rddo_brk rfl kr trivial (e_store ttOk rfl) (rdd_endq kr ?_))
      exact ev_joinE (bothFallenF t5 G, δ23) [(101, 163), (102, 1163), (103, 2163), (104, 3163)] trivial ⟨trf, trf, ⟨⟨_, rfl, by rfl⟩, ⟨_, rfl, by rfl⟩, ⟨_, rfl, by rfl⟩, ⟨_, rfl, by rfl⟩, trivial⟩, tre, rfl⟩
     ·try have d22 := of_decide_eq_false h22
      refine ev_skip ?_
      exact ev_joinE (t5, δ21) [] trivial ⟨trf, trf, ⟨⟨_, rfl, by rfl⟩, ⟨_, rfl, by rfl⟩, ⟨_, rfl, by rfl⟩, ⟨_, rfl, by rfl⟩, trivial⟩, tre, rfl⟩
    ·rintro ⟨t6, δ6⟩ _
     show EvE _ _ _ (⟨[(0, pbV 0 0), (2, pbV 2 0), (3, pbV 3 0)], [(0, 108, diceA v0 δ6), (2, 32, [.c .nil, .c .nil, .c .nil, .c .nil]), (3, 32, [.rt 101, .rt 102, .rt 103, .rt 104])], [(101, 45, 1, (t6.a.kept.map fun r => [ints r])), (102, 103, 2, (t6.a.wait.map fun x => [iC x.1, ints x.2])), (103, 45, 1, (t6.b.kept.map fun r => [ints r])), (104, 103, 2, (t6.b.wait.map fun x => [iC x.1, ints x.2]))], []⟩ : St)
     refine et (sq (sq (rg (xm rfl rfl (evl_roll (nm := 165) (cf rfl) (c_l1Once _) rfl rfl hsrc (rs_of rfl) (fun _ => rfl) (fun x24 δ24 r24 => ?_))))))
     refine rlk rfl rfl rfl (nl (et (ev_joinI (α := Two × DS bn) (fun i => True) (fun i => (⟨[(0, pbV 0 0), (2, pbV 2 0), (3, pbV 3 0)], [(0, 108, diceA v0 i.2), (2, 32, [.c .nil, .c .nil, .c .nil, .c .nil]), (3, 32, [.rt 101, .rt 102, .rt 103, .rt 104])], [(101, 45, 1, (i.1.a.kept.map fun r => [ints r])), (102, 103, 2, (i.1.a.wait.map fun x => [iC x.1, ints x.2])), (103, 45, 1, (i.1.b.kept.map fun r => [ints r])), (104, 103, 2, (i.1.b.wait.map fun x => [iC x.1, ints x.2]))], []⟩ : St)) ?_ ?_)))
     ·refine ev_cond rfl (fun h25 => ?_) (fun h25 => ?_)
      ·try have d25 := of_decide_eq_true h25
       refine ev_drawd [13] g mo (rdd_pure 0 rfl kr trivial (qw_fieldAddr ttOk rfl) rfl (rdd_take 0 0 1 rfl kr trivial rfl rfl rfl rfl (q_load ttOk rfl) rfl rfl (rdd_pure 2 rfl kr trivial (qw_move rfl) rfl (rdd_pure 4 rfl kr trivial (qw_move rfl) rfl (rdd_pure 6 rfl kr trivial (qw_move rfl) rfl (rdd_1 3 kr (rddo_roll (nm := 170) 0 rfl trivial rfl rfl (cf rfl) (c_l1Below _) rfl rfl hsrc (rs_of rfl) (fun _ => rfl) (fun ya δ26 r26 => ?_))))))))
       refine rdk rfl rfl rfl ?_
       obtain ⟨r26a, r26b⟩ := r26
       refine rdd_1 5 kr (rddo_roll (nm := 172) 0 rfl trivial rfl rfl (cf rfl) (c_l1Below _) rfl rfl hsrc (rs_of rfl) (fun _ => rfl) (fun yb δ27 r27 => ?_))
       refine rdk rfl rfl rfl ?_
       obtain ⟨r27a, r27b⟩ := r27
       refine rdd_1 7 kr (rddo_roll (nm := 174) 0 rfl trivial rfl rfl (cf rfl) (c_l1Below _) rfl rfl hsrc (rs_of rfl) (fun _ => rfl) (fun yc δ28 r28 => ?_))
       refine rdk rfl rfl rfl ?_
       obtain ⟨r28a, r28b⟩ := r28
       refine rdd_1 8 kr (rddo_call (nm := 175) rfl trivial (cf rfl) (c_Rotted t6.b ya yb yc) (rs_of rfl) rfl rfl rfl (rdd_pure 9 rfl kr trivial (qw_move rfl) rfl (rdd_pure 10 rfl kr trivial (qw_ext rfl) rfl (rdd_pure 11 rfl kr trivial (qw_ext rfl) rfl (rdd_pure 12 rfl kr trivial (qw_fieldAddr ttOk rfl) rfl (rdd_1 13 kr (rddo_brk rfl kr trivial (e_store ttOk rfl) (rdd_endq kr ?_))))))))
       exact ev_joinE (⟨t6.a, (rottedF t6.b ya yb yc).1⟩, δ28) [(101, 101), (102, 102), (103, 175), (104, 1175)] trivial ⟨trf, trf, ⟨⟨_, rfl, by rfl⟩, ⟨_, rfl, by rfl⟩, ⟨_, rfl, by rfl⟩, ⟨_, rfl, by rfl⟩, trivial⟩, tre, rfl⟩
      ·try have d25 := of_decide_eq_false h25
       refine ev_skip ?_
       exact ev_joinE (t6, δ24) [] trivial ⟨trf, trf, ⟨⟨_, rfl, by rfl⟩, ⟨_, rfl, by rfl⟩, ⟨_, rfl, by rfl⟩, ⟨_, rfl, by rfl⟩, trivial⟩, tre, rfl⟩
     ·rintro ⟨t7, δ7⟩ _
      show EvE _ _ _ (⟨[(0, pbV 0 0), (2, pbV 2 0), (3, pbV 3 0)], [(0, 108, diceA v0 δ7), (2, 32, [.c .nil, .c .nil, .c .nil, .c .nil]), (3, 32, [.rt 101, .rt 102, .rt 103, .rt 104])], [(101, 45, 1, (t7.a.kept.map fun r => [ints r])), (102, 103, 2, (t7.a.wait.map fun x => [iC x.1, ints x.2])), (103, 45, 1, (t7.b.kept.map fun r => [ints r])), (104, 103, 2, (t7.b.wait.map fun x => [iC x.1, ints x.2]))], []⟩ : St)
      refine et (sq (rg (xl ttOk rfl rfl (xst ttOk rfl rfl (nl (et (ev_ret (ret_roll t7 δ7 ttOk rfl rfl rfl rfl ?_ ?_))))))))
      ·simp [RpLe, L2, RcLe]
      ·trivial
end Go.Proofs.YtahkjonokeifmaaGreat.Cur
