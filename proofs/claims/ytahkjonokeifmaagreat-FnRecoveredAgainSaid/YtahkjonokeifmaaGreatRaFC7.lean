/- Walks of functions of the program, printed by a program of the prover. -/
import Derived.Test.YtahkjonokeifmaaGreatRaFC6
namespace Go.Proofs.YtahkjonokeifmaaGreat.Cur
open Go.ChangeShapes Go.WideShapes Go.ChangeAt Go.RowKit
set_option linter.unusedVariables false
set_option linter.unusedSimpArgs false
set_option maxHeartbeats 1000000
set_option maxRecDepth 100000
attribute [local irreducible] EvL Ev EvE Quiet Eff Pure RDk RDb RDo
theorem c_l10Bent : RollsF Tryz.prog 108 44 (α := Two) (fun _ => True) twoC := by
 refine rollsF_intro (N := 35) Tryz.func44 rfl rfl rfl (fun H w g v0 bn δ0 hsrc => ?_)
 refine sq (rg (evl_e (e_alloc ttOk rfl rfl rfl rfl) (nl (et (sq (rg (xm rfl rfl (evl_roll (nm := 5) (cf rfl) c_l10Draw rfl rfl hsrc (rs_of rfl) (fun _ => rfl) (fun t δ1 r1 => ?_)))))))))
 refine rlk rfl rfl rfl (evl_e (e_alloc ttOk rfl rfl rfl rfl) (xst ttOk rfl rfl (nl (et (sq (sq (rg (xm rfl rfl (evl_roll (nm := 7) (cf rfl) (c_l1Below _) rfl rfl hsrc (rs_of rfl) (fun _ => rfl) (fun x2 δ2 r2 => ?_))))))))))
 refine rlk rfl rfl rfl ?_
 obtain ⟨r2a, r2b⟩ := r2
 refine nl (et (ev_blk (sq (rg (xb ttOk rfl rfl (xs rfl rfl (nl (et (ev_cond rfl (fun h3 => ?_) (fun h3 => ?_))))))))))
 ·try have d3 := of_decide_eq_true h3
  refine ev_drawd [13] g mo (rdd_pure 0 rfl kr trivial (qw_fieldAddr ttOk rfl) rfl (rdd_take 0 0 1 rfl kr trivial rfl rfl rfl rfl (q_load ttOk rfl) rfl rfl (rdd_pure 2 rfl kr trivial (qw_move rfl) rfl (rdd_pure 4 rfl kr trivial (qw_move rfl) rfl (rdd_pure 6 rfl kr trivial (qw_move rfl) rfl (rdd_1 3 kr (rddo_roll (nm := 14) 0 rfl trivial rfl rfl (cf rfl) (c_l1Below _) rfl rfl hsrc (rs_of rfl) (fun _ => rfl) (fun ya δ4 r4 => ?_))))))))
  refine rdk rfl rfl rfl ?_
  obtain ⟨r4a, r4b⟩ := r4
  refine rdd_1 5 kr (rddo_roll (nm := 16) 0 rfl trivial rfl rfl (cf rfl) (c_l1Below _) rfl rfl hsrc (rs_of rfl) (fun _ => rfl) (fun yb δ5 r5 => ?_))
  refine rdk rfl rfl rfl ?_
  obtain ⟨r5a, r5b⟩ := r5
  refine rdd_1 7 kr (rddo_roll (nm := 18) 0 rfl trivial rfl rfl (cf rfl) (c_l1Below _) rfl rfl hsrc (rs_of rfl) (fun _ => rfl) (fun yc δ6 r6 => ?_))
  refine rdk rfl rfl rfl ?_
  obtain ⟨r6a, r6b⟩ := r6
  refine rdd_1 8 kr (rddo_call (nm := 19) rfl trivial (cf rfl) (c_Rotted t.a ya yb yc) (rs_of rfl) rfl rfl rfl (rdd_pure 9 rfl kr trivial (qw_move rfl) rfl (rdd_pure 10 rfl kr trivial (qw_ext rfl) rfl (rdd_pure 11 rfl kr trivial (qw_ext rfl) rfl (rdd_pure 12 rfl kr trivial (qw_fieldAddr ttOk rfl) rfl (rdd_1 13 kr (rddo_brk rfl kr trivial (e_store ttOk rfl) (rdd_endq kr (eb (et (sq (ev_le (S' := ⟨[(0, pbV 0 0), (2, pbV 2 0), (3, pbV 3 0)], [(0, 108, diceA v0 δ6), (2, 32, [.c .nil, .c .nil, .c .nil, .c .nil]), (3, 32, [.rt 19, .rt 1019, .rt 2005, .rt 3005])], [(19, 45, 1, ((⟨(rottedF t.a ya yb yc).1, t.b⟩ : Two).a.kept.map fun r => [ints r])), (1019, 103, 2, ((⟨(rottedF t.a ya yb yc).1, t.b⟩ : Two).a.wait.map fun x => [iC x.1, ints x.2])), (2005, 45, 1, ((⟨(rottedF t.a ya yb yc).1, t.b⟩ : Two).b.kept.map fun r => [ints r])), (3005, 103, 2, ((⟨(rottedF t.a ya yb yc).1, t.b⟩ : Two).b.wait.map fun x => [iC x.1, ints x.2]))], []⟩) [] ⟨trf, trf, ⟨⟨_, rfl, by first | rfl | simp⟩, ⟨_, rfl, by first | rfl | simp⟩, ⟨_, rfl, by first | rfl | simp⟩, ⟨_, rfl, by first | rfl | simp⟩, trivial⟩, tre, rfl⟩ ?_))))))))))))
  refine ev_frsB 19 rfl (fun H1 hE1 => ?_)
  have hsrc := hsrc.mono hE1.1
  refine ev_frsB 1019 rfl (fun H2 hE2 => ?_)
  have hsrc := hsrc.mono hE2.1
  refine ev_frsB 2005 rfl (fun H3 hE3 => ?_)
  have hsrc := hsrc.mono hE3.1
  refine ev_frsB 3005 rfl (fun H4 hE4 => ?_)
  have hsrc := hsrc.mono hE4.1
  refine ev_le (S' := ⟨[(0, pbV 0 0), (2, pbV 2 0), (3, pbV 3 0)], [(0, 108, diceA v0 δ6), (2, 32, [.c .nil, .c .nil, .c .nil, .c .nil]), (3, 32, [.c (rows (⟨(rottedF t.a ya yb yc).1, t.b⟩ : Two).a.kept), .c (writes (⟨(rottedF t.a ya yb yc).1, t.b⟩ : Two).a.wait), .c (rows (⟨(rottedF t.a ya yb yc).1, t.b⟩ : Two).b.kept), .c (writes (⟨(rottedF t.a ya yb yc).1, t.b⟩ : Two).b.wait)])], [], []⟩) [] lei ?_
  refine rg (xl ttOk rfl rfl (xst ttOk rfl rfl (nl (et (ev_ret ?_)))))
  exact ret_rollF (⟨(rottedF t.a ya yb yc).1, t.b⟩ : Two) δ6 (((hE1.trans hE2).trans hE3).trans hE4) ttOk rfl rfl rfl rfl trivial
 ·try have d3 := of_decide_eq_false h3
  refine sq (rg (xb ttOk rfl rfl (xs rfl rfl (nl (et (ev_cond rfl (fun h7 => ?_) (fun h7 => ?_)))))))
  ·try have d7 := of_decide_eq_true h7
   refine sq (rg (xm rfl rfl (evl_rollF (cf rfl) c_l4DrawAny rfl rfl hsrc rfl (fun y δF H1 _ hE1 => ⟨_, rfl, ?_⟩))))
   have hsrc := hsrc.mono hE1.1
   refine xst ttOk rfl rfl (nl (et (ev_ret (evr_blk (evr_then ?_)))))
   exact ret_rollF y δF hE1 ttOk rfl rfl rfl rfl trivial
  ·try have d7 := of_decide_eq_false h7
   refine sq (rg (xb ttOk rfl rfl (xs rfl rfl (nl (et (ev_cond rfl (fun h8 => ?_) (fun h8 => ?_)))))))
   ·try have d8 := of_decide_eq_true h8
    refine sq (rg (evl_call (nm := 29) (cf rfl) (c_NewTwo 22) (rs_of rfl) rfl rfl rfl (xst ttOk rfl rfl (nl (et (ev_le (S' := ⟨[(0, pbV 0 0), (2, pbV 2 0)], [(0, 108, diceA v0 δ2), (2, 32, [.rt 29, .rt 1029, .rt 2029, .rt 3029])], [(29, 45, 1, ((newTwoF 22).a.kept.map fun r => [ints r])), (1029, 103, 2, ((newTwoF 22).a.wait.map fun x => [iC x.1, ints x.2])), (2029, 45, 1, ((newTwoF 22).b.kept.map fun r => [ints r])), (3029, 103, 2, ((newTwoF 22).b.wait.map fun x => [iC x.1, ints x.2]))], []⟩) [] ⟨trf, trf, ⟨⟨_, rfl, by first | rfl | simp⟩, ⟨_, rfl, by first | rfl | simp⟩, ⟨_, rfl, by first | rfl | simp⟩, ⟨_, rfl, by first | rfl | simp⟩, trivial⟩, tre, rfl⟩ ?_))))))
    refine ev_frsB 29 rfl (fun H1 hE1 => ?_)
    have hsrc := hsrc.mono hE1.1
    refine ev_frsB 1029 rfl (fun H2 hE2 => ?_)
    have hsrc := hsrc.mono hE2.1
    refine ev_frsB 2029 rfl (fun H3 hE3 => ?_)
    have hsrc := hsrc.mono hE3.1
    refine ev_frsB 3029 rfl (fun H4 hE4 => ?_)
    have hsrc := hsrc.mono hE4.1
    refine ev_le (S' := ⟨[(0, pbV 0 0), (2, pbV 2 0)], [(0, 108, diceA v0 δ2), (2, 32, [.c (rows (newTwoF 22).a.kept), .c (writes (newTwoF 22).a.wait), .c (rows (newTwoF 22).b.kept), .c (writes (newTwoF 22).b.wait)])], [], []⟩) [] lei ?_
    refine ev_ret (evr_blk (evr_then ?_))
    exact ret_rollF (newTwoF 22) δ2 (((hE1.trans hE2).trans hE3).trans hE4) ttOk rfl rfl rfl rfl trivial
   ·try have d8 := of_decide_eq_false h8
    refine sq (rg (xb ttOk rfl rfl (xs rfl rfl (nl (et (ev_cond rfl (fun h9 => ?_) (fun h9 => ?_)))))))
    ·try have d9 := of_decide_eq_true h9
     refine rg (evl_call (nm := 32) (cf rfl) (c_NewDisk 22) (rs_of rfl) rfl rfl rfl (xf ttOk rfl rfl (xst ttOk rfl rfl (nl (eb (et (sq (ev_le (S' := ⟨[(0, pbV 0 0), (2, pbV 2 0), (3, pbV 3 0)], [(0, 108, diceA v0 δ2), (2, 32, [.c .nil, .c .nil, .c .nil, .c .nil]), (3, 32, [.rt 5, .rt 1005, .rt 32, .rt 1032])], [(5, 45, 1, ((⟨t.a, newDiskF 22⟩ : Two).a.kept.map fun r => [ints r])), (1005, 103, 2, ((⟨t.a, newDiskF 22⟩ : Two).a.wait.map fun x => [iC x.1, ints x.2])), (32, 45, 1, ((⟨t.a, newDiskF 22⟩ : Two).b.kept.map fun r => [ints r])), (1032, 103, 2, ((⟨t.a, newDiskF 22⟩ : Two).b.wait.map fun x => [iC x.1, ints x.2]))], []⟩) [] ⟨trf, trf, ⟨⟨_, rfl, by first | rfl | simp⟩, ⟨_, rfl, by first | rfl | simp⟩, ⟨_, rfl, by first | rfl | simp⟩, ⟨_, rfl, by first | rfl | simp⟩, trivial⟩, tre, rfl⟩ ?_))))))))
     refine ev_frsB 5 rfl (fun H1 hE1 => ?_)
     have hsrc := hsrc.mono hE1.1
     refine ev_frsB 1005 rfl (fun H2 hE2 => ?_)
     have hsrc := hsrc.mono hE2.1
     refine ev_frsB 32 rfl (fun H3 hE3 => ?_)
     have hsrc := hsrc.mono hE3.1
     refine ev_frsB 1032 rfl (fun H4 hE4 => ?_)
     have hsrc := hsrc.mono hE4.1
     refine ev_le (S' := ⟨[(0, pbV 0 0), (2, pbV 2 0), (3, pbV 3 0)], [(0, 108, diceA v0 δ2), (2, 32, [.c .nil, .c .nil, .c .nil, .c .nil]), (3, 32, [.c (rows (⟨t.a, newDiskF 22⟩ : Two).a.kept), .c (writes (⟨t.a, newDiskF 22⟩ : Two).a.wait), .c (rows (⟨t.a, newDiskF 22⟩ : Two).b.kept), .c (writes (⟨t.a, newDiskF 22⟩ : Two).b.wait)])], [], []⟩) [] lei ?_
     refine rg (xl ttOk rfl rfl (xst ttOk rfl rfl (nl (et (ev_ret ?_)))))
     exact ret_rollF (⟨t.a, newDiskF 22⟩ : Two) δ2 (((hE1.trans hE2).trans hE3).trans hE4) ttOk rfl rfl rfl rfl trivial
    ·try have d9 := of_decide_eq_false h9
     refine ev_skip (eb (et (sq (ev_le (S' := ⟨[(0, pbV 0 0), (2, pbV 2 0), (3, pbV 3 0)], [(0, 108, diceA v0 δ2), (2, 32, [.c .nil, .c .nil, .c .nil, .c .nil]), (3, 32, [.rt 5, .rt 1005, .rt 2005, .rt 3005])], [(5, 45, 1, ((t : Two).a.kept.map fun r => [ints r])), (1005, 103, 2, ((t : Two).a.wait.map fun x => [iC x.1, ints x.2])), (2005, 45, 1, ((t : Two).b.kept.map fun r => [ints r])), (3005, 103, 2, ((t : Two).b.wait.map fun x => [iC x.1, ints x.2]))], []⟩) [] ⟨trf, trf, ⟨⟨_, rfl, by first | rfl | simp⟩, ⟨_, rfl, by first | rfl | simp⟩, ⟨_, rfl, by first | rfl | simp⟩, ⟨_, rfl, by first | rfl | simp⟩, trivial⟩, tre, rfl⟩ ?_))))
     refine ev_frsB 5 rfl (fun H1 hE1 => ?_)
     have hsrc := hsrc.mono hE1.1
     refine ev_frsB 1005 rfl (fun H2 hE2 => ?_)
     have hsrc := hsrc.mono hE2.1
     refine ev_frsB 2005 rfl (fun H3 hE3 => ?_)
     have hsrc := hsrc.mono hE3.1
     refine ev_frsB 3005 rfl (fun H4 hE4 => ?_)
     have hsrc := hsrc.mono hE4.1
     refine ev_le (S' := ⟨[(0, pbV 0 0), (2, pbV 2 0), (3, pbV 3 0)], [(0, 108, diceA v0 δ2), (2, 32, [.c .nil, .c .nil, .c .nil, .c .nil]), (3, 32, [.c (rows (t : Two).a.kept), .c (writes (t : Two).a.wait), .c (rows (t : Two).b.kept), .c (writes (t : Two).b.wait)])], [], []⟩) [] lei ?_
     refine rg (xl ttOk rfl rfl (xst ttOk rfl rfl (nl (et (ev_ret ?_)))))
     exact ret_rollF (t : Two) δ2 (((hE1.trans hE2).trans hE3).trans hE4) ttOk rfl rfl rfl rfl trivial
theorem c_DrawKeptOk : GivesF Tryz.prog 17 (α := Two) (fun _ => True) twoC := by
 refine givesF_intro (N := 8) Tryz.func17 rfl rfl rfl (fun H w l hl hn => ?_)
 refine sq (rg (evl_e (e_alloc ttOk rfl rfl rfl rfl) (nl (et (sq (rg (xm rfl rfl (evl_mkcur (cf rfl) c_l1New rfl hl hn rfl rfl (fun g v0 δ0 hg hsrc => ?_)))))))))
 refine xs rfl rfl (nl (et (sq (rg (xm rfl rfl (evl_rollF (cf rfl) c_l10Bent rfl rfl hsrc rfl (fun t δF H1 _ hE1 => ⟨_, rfl, ?_⟩)))))))
 refine xst ttOk rfl rfl (nl (et (ev_ret ?_)))
 exact ret_giveF t (fun b hb => by rw [List.mem_singleton.1 hb]; exact hg) hE1 ttOk rfl rfl trivial
theorem c_DrawRecovered : GivesF Tryz.prog 6 (α := Two) (fun _ => True) twoC := by
 refine givesF_intro (N := 5) Tryz.func6 rfl rfl rfl (fun H w l hl hn => ?_)
 refine sq (rg (evl_e (e_alloc ttOk rfl rfl rfl rfl) (nl (et (sq (rg (xm rfl rfl (evl_giveF (cf rfl) c_DrawKeptOk rfl hl hn rfl (fun t H1 _ hE1 => ?_)))))))))
 refine xst ttOk rfl rfl (nl (et (ev_ret ?_)))
 exact ret_giveF t (by simp) hE1 ttOk rfl rfl trivial
end Go.Proofs.YtahkjonokeifmaaGreat.Cur
