/- Walks of functions of the program, printed by a program of the prover. -/
import Derived.Test.YtinmcdcmidlgpaaGreatDoorRgF66
import Derived.Test.YtinmcdcmidlgpaaGreatDoorRgVDA
import Derived.LaidEql
import Derived.Stop.Asserts
import Derived.RowKitTokens
import Derived.Test.YtinmcdcmidlgpaaGreatDoorRgF61
import Derived.Test.YtinmcdcmidlgpaaGreatDoorRgF48
import Derived.Test.YtinmcdcmidlgpaaGreatDoorRgF46
import Derived.Test.YtinmcdcmidlgpaaGreatDoorRgF22
namespace Go.Proofs.YtinmcdcmidlgpaaGreatDoor
open Go.ChangeShapes Go.WideShapes Go.ChangeAt Go.RowKit
set_option linter.unusedVariables false
set_option linter.unusedSimpArgs false
set_option maxHeartbeats 1000000
set_option maxRecDepth 100000
attribute [local irreducible] EvL Ev EvE Quiet Eff Pure RDk RDb RDo
theorem c_AskedOf1 (n : LogN) (a : Ask) (now : Int) (hT : logOkF n = true → askOkF a = true → timeOk now = true → a.seq > (findM n.seen a.client).seq → takesA n (entA n a now) = true) : Pure Tryz.prog 16 [many (logC n), many (askC a), one (iC now)] [many' (logR ((askedF n a now).1)), one' (acksR (askedF n a now).2)] := by
 refine pure_intro (N := 97) Tryz.func16 rfl rfl rfl rfl (fun H w => ?_)
 have cl := c_LogOk' n
 rw [logOk_same] at cl
 refine sq (rg (evl_e (e_box rfl rfl rfl rfl) (evl_e (e_box rfl rfl rfl rfl) (evl_e (e_alloc ttOk rfl rfl rfl rfl) (xs rfl rfl (nl (et (sq (sq (rg (xl ttOk rfl rfl (evl_call (nm := 14) (cf rfl) cl (rs_of rfl) rfl rfl rfl (xo (q_not rfl) rfl (nl (et (ev_cond_n rfl (fun h1 => ?_) (fun h1 => ?_)))))))))))))))))
 try have d1 := of_decide_eq_false h1
 refine sq (rg (xo (q_build ttOk rfl) rfl (xst ttOk rfl rfl (xs rfl rfl (nl (et (ev_ret (evr_then (ret_pureN ttOk rfl rfl ?_)))))))))
 rotate_left
 try have d1 := of_decide_eq_true h1
 obtain ⟨hk, hh, hb, he1, he2⟩ := log_all h1
 have hsm := log_small h1
 have hso := of_sok (log_seen h1).2.2
 refine ev_skip (et (sq (rg (xl ttOk rfl rfl (evl_call (nm := 18) (cf rfl) (c_copyLog n h1) (rs_of rfl) rfl rfl rfl (evl_e (e_alloc ttOk rfl rfl rfl rfl) (xst ttOk rfl rfl (nl (et (sq (sq (rg (xl ttOk rfl rfl (evl_call (nm := 20) (cf rfl) (c_AskOk' a) (rs_of rfl) rfl rfl rfl (xo (q_not rfl) rfl (xm rfl rfl (evl_partn rfl rfl (fun h2 => ?_) (fun h2 => ?_))))))))))))))))))
 try have d2 := of_decide_eq_false h2
 refine gn (nt h2) rfl rfl rfl (gn (nt h2) rfl rfl rfl (gn (nt h2) rfl rfl rfl (xo (q_pick_t rfl (nt h2) rfl) rfl (nl (et (ev_cond_kt rfl rfl (sq (rg (xl ttOk rfl rfl (xst ttOk rfl rfl (xs rfl rfl (nl (et (ev_ret (evr_then (ret_pureN ttOk rfl rfl ?_))))))))))))))))
 rotate_left
 try have d2 := of_decide_eq_true h2
 refine gm (nf h2) rfl rfl rfl rfl (evl_callg rfl rfl (nf h2) (nm := 24) (cf rfl) (c_TimeOk' now) (rs_of rfl) rfl rfl rfl (go (nf h2) rfl rfl (q_not rfl) rfl (xo (q_pick_f rfl (nf h2) rfl) rfl (nl (et (ev_cond_n rfl (fun h3 => ?_) (fun h3 => ?_)))))))
 try have d3 := of_decide_eq_false h3
 refine sq (rg (xl ttOk rfl rfl (xst ttOk rfl rfl (xs rfl rfl (nl (et (ev_ret (evr_then (ret_pureN ttOk rfl rfl ?_)))))))))
 rotate_left
 try have d3 := of_decide_eq_true h3
 refine ev_skip (et (sq (rg (xf ttOk rfl rfl (xl ttOk rfl rfl (xf ttOk rfl rfl (xl ttOk rfl rfl (evl_call (nm := 32) (cf rfl) (c_markOf n.seen a.client) (rs_of rfl) rfl rfl rfl (evl_e (e_alloc ttOk rfl rfl rfl rfl) (xst ttOk rfl rfl (nl (et (sq (ev_blk (sq (rg (xf ttOk rfl rfl (xl ttOk rfl rfl (xf ttOk rfl rfl (xl ttOk rfl rfl (xb ttOk rfl rfl (xs rfl rfl (nl (et (ev_cond rfl (fun h4 => ?_) (fun h4 => ?_))))))))))))))))))))))))))
 try have d4 := of_decide_eq_true h4
 have hfr : freshLogF n a now = withE n (entA n a now) := by unfold freshLogF; rw [hT h1 h2 h3 ‹_›]; rfl
 refine sq (rg (xl ttOk rfl rfl (xl ttOk rfl rfl (xm rfl rfl (evl_takec (nm := 43) (cf rfl) rfl rfl (c_recorded n a now h1 (hT h1 h2 h3 ‹_›)) rfl (rs_of rfl) rfl rfl rfl (xm rfl rfl (xo (q_ext rfl) rfl (xo (q_ext rfl) rfl (evl_e (e_alloc ttOk rfl rfl rfl rfl) (xst ttOk rfl rfl (xs rfl rfl (nl (et (sq (rg (evl_e (e_alloc ttOk rfl rfl rfl rfl) (nl (et (sq (sq (rg (xm rfl rfl (xo (q_mkif kr rfl) rfl (evl_asnil (cf rfl) as_nil rfl rfl (xm rfl rfl (gn rfl rfl rfl rfl (gn rfl rfl rfl rfl (gn rfl rfl rfl rfl (gn rfl rfl rfl rfl (xo (q_pick_f rfl rfl rfl) rfl (nl (et (ev_cond_kf rfl rfl (ev_skip (et (sq (rg (xl ttOk rfl rfl (xst ttOk rfl rfl (xs rfl rfl (nl (et (ev_ret (evr_blk (evr_then (ret_pureN ttOk rfl rfl ?_))))))))))))))))))))))))))))))))))))))))))))))
 rotate_left
 try have d4 := of_decide_eq_false h4
 refine sq (rg (xf ttOk rfl rfl (xl ttOk rfl rfl (xf ttOk rfl rfl (xl ttOk rfl rfl (xb ttOk rfl rfl (xm rfl rfl (evl_part rfl rfl (fun h5 => ?_) (fun h5 => ?_)))))))))
 try have d5 := of_decide_eq_true h5
 refine go h5 rfl rfl (q_fieldAddr ttOk rfl) rfl (go h5 rfl rfl (q_load ttOk rfl) rfl (go h5 rfl rfl (q_fieldAddr ttOk rfl) rfl (go h5 rfl rfl (q_load ttOk rfl) rfl (go h5 rfl rfl (q_bin ttOk rfl) rfl (xo (q_pick_t rfl h5 rfl) rfl (xs rfl rfl (nl (et (ev_cond rfl (fun h6 => ?_) (fun h6 => ?_))))))))))
 try have d6 := of_decide_eq_true h6
 refine sq (rg (xl ttOk rfl rfl (xst ttOk rfl rfl (xs rfl rfl (nl (et (ev_ret (evr_blk (evr_then (ret_pureN ttOk rfl rfl ?_))))))))))
 rotate_left
 try have d6 := of_decide_eq_false h6
 refine sq (rg (xf ttOk rfl rfl (xl ttOk rfl rfl (xf ttOk rfl rfl (xl ttOk rfl rfl (xb ttOk rfl rfl (xs rfl rfl (nl (et (ev_cond rfl (fun h7 => ?_) (fun h7 => ?_)))))))))))
 try have d7 := of_decide_eq_true h7
 refine sq (ev_frz (cs := logC n) 3 rfl rfl rfl (fun HF16_0 hHF16_0 => ?_))
 refine ev_frz (cs := askC a) 4 rfl rfl rfl (fun HF16_1 hHF16_1 => ?_)
 refine ev_frz (cs := markC (findM n.seen a.client)) 9 rfl rfl rfl (fun HF16_2 hHF16_2 => ?_)
 refine ev_drawh mo (rdh_take 1 rfl kr trivial (QuietW.h (qw_fieldAddr ttOk rfl)) rfl (rdh_take 2 rfl kr trivial (q_loadH ttOk rfl rfl) rfl (rdh_take 3 rfl kr trivial (QuietW.h (qw_fieldAddr ttOk rfl)) rfl (rdh_take 4 rfl kr trivial (q_loadH ttOk rfl rfl) rfl (rdh_take 5 rfl kr trivial (QuietW.h (qw_fieldAddr ttOk rfl)) rfl (rdh_take 6 rfl kr trivial (q_loadH ttOk rfl rfl) rfl (rdh_take 7 rfl kr trivial (QuietW.h (qw_fieldAddr ttOk rfl)) rfl (rdh_take 8 rfl kr trivial (q_loadH ttOk rfl rfl) rfl (rdh_2 0 9 kr ?_ ?_)))))))))
 refine rdho_q rfl trivial (q_load ttOk rfl) rfl (rdh_2 9 11 kr ?_ ?_)
 refine rdho_q rfl trivial (q_build ttOk rfl) rfl (rdh_2 10 11 kr ?_ ?_)
 refine rdho_eff rfl trivial (e_lit ttOk rfl rfl rfl) (rdh_1 11 kr (rdho_eff rfl trivial (e_store ttOk rfl) (rdh_take 12 rfl kr trivial (QuietW.h (qw_assign rfl)) rfl (rdh_endq kr (et (ev_ret (evr_blk (evr_then (retH rfl (ret_pureN ttOk rfl rfl ?_))))))))))
 rotate_left
 refine rdho_eff rfl trivial (e_store ttOk rfl) (rdh_1 10 kr (rdho_eff rfl trivial (e_lit ttOk rfl rfl rfl) (rdh_take 12 rfl kr trivial (QuietW.h (qw_assign rfl)) rfl (rdh_endq kr (et (ev_ret (evr_blk (evr_then (retH rfl (ret_pureN ttOk rfl rfl ?_))))))))))
 rotate_left
 refine rdho_eff rfl trivial (e_store ttOk rfl) (rdh_1 9 kr (rdho_q rfl trivial (q_build ttOk rfl) rfl (rdh_1 10 kr (rdho_eff rfl trivial (e_lit ttOk rfl rfl rfl) (rdh_take 12 rfl kr trivial (QuietW.h (qw_assign rfl)) rfl (rdh_endq kr (et (ev_ret (evr_blk (evr_then (retH rfl (ret_pureN ttOk rfl rfl ?_))))))))))))
 rotate_left
 refine rdho_q rfl trivial (q_build ttOk rfl) rfl (rdh_2 0 10 kr ?_ ?_)
 refine rdho_q rfl trivial (q_load ttOk rfl) rfl (rdh_2 10 11 kr ?_ ?_)
 refine rdho_eff rfl trivial (e_lit ttOk rfl rfl rfl) (rdh_1 11 kr (rdho_eff rfl trivial (e_store ttOk rfl) (rdh_take 12 rfl kr trivial (QuietW.h (qw_assign rfl)) rfl (rdh_endq kr (et (ev_ret (evr_blk (evr_then (retH rfl (ret_pureN ttOk rfl rfl ?_))))))))))
 rotate_left
 refine rdho_eff rfl trivial (e_store ttOk rfl) (rdh_1 10 kr (rdho_eff rfl trivial (e_lit ttOk rfl rfl rfl) (rdh_take 12 rfl kr trivial (QuietW.h (qw_assign rfl)) rfl (rdh_endq kr (et (ev_ret (evr_blk (evr_then (retH rfl (ret_pureN ttOk rfl rfl ?_))))))))))
 rotate_left
 refine rdho_eff rfl trivial (e_lit ttOk rfl rfl rfl) (rdh_1 0 kr (rdho_q rfl trivial (q_load ttOk rfl) rfl (rdh_1 11 kr (rdho_eff rfl trivial (e_store ttOk rfl) (rdh_take 12 rfl kr trivial (QuietW.h (qw_assign rfl)) rfl (rdh_endq kr (et (ev_ret (evr_blk (evr_then (retH rfl (ret_pureN ttOk rfl rfl ?_))))))))))))
 rotate_left
 try have d7 := of_decide_eq_false h7
 refine ev_skip (eb (et (sq (ev_frz (cs := logC n) 3 rfl rfl rfl (fun HF17_0 hHF17_0 => ?_)))))
 refine ev_frz (cs := askC a) 4 rfl rfl rfl (fun HF17_1 hHF17_1 => ?_)
 refine ev_frz (cs := markC (findM n.seen a.client)) 9 rfl rfl rfl (fun HF17_2 hHF17_2 => ?_)
 refine ev_drawh mo (rdh_take 1 rfl kr trivial (QuietW.h (qw_fieldAddr ttOk rfl)) rfl (rdh_take 2 rfl kr trivial (q_loadH ttOk rfl rfl) rfl (rdh_take 3 rfl kr trivial (QuietW.h (qw_fieldAddr ttOk rfl)) rfl (rdh_take 4 rfl kr trivial (q_loadH ttOk rfl rfl) rfl (rdh_take 5 rfl kr trivial (QuietW.h (qw_fieldAddr ttOk rfl)) rfl (rdh_take 6 rfl kr trivial (q_loadH ttOk rfl rfl) rfl (rdh_2 0 7 kr ?_ ?_)))))))
 refine rdho_q rfl trivial (q_load ttOk rfl) rfl (rdh_2 7 9 kr ?_ ?_)
 refine rdho_q rfl trivial (q_build ttOk rfl) rfl (rdh_2 8 9 kr ?_ ?_)
 refine rdho_eff rfl trivial (e_lit ttOk rfl rfl rfl) (rdh_1 9 kr (rdho_eff rfl trivial (e_store ttOk rfl) (rdh_take 10 rfl kr trivial (QuietW.h (qw_assign rfl)) rfl (rdh_endq kr (et (ev_ret (retH rfl (ret_pureN ttOk rfl rfl ?_))))))))
 rotate_left
 refine rdho_eff rfl trivial (e_store ttOk rfl) (rdh_1 8 kr (rdho_eff rfl trivial (e_lit ttOk rfl rfl rfl) (rdh_take 10 rfl kr trivial (QuietW.h (qw_assign rfl)) rfl (rdh_endq kr (et (ev_ret (retH rfl (ret_pureN ttOk rfl rfl ?_))))))))
 rotate_left
 refine rdho_eff rfl trivial (e_store ttOk rfl) (rdh_1 7 kr (rdho_q rfl trivial (q_build ttOk rfl) rfl (rdh_1 8 kr (rdho_eff rfl trivial (e_lit ttOk rfl rfl rfl) (rdh_take 10 rfl kr trivial (QuietW.h (qw_assign rfl)) rfl (rdh_endq kr (et (ev_ret (retH rfl (ret_pureN ttOk rfl rfl ?_))))))))))
 rotate_left
 refine rdho_q rfl trivial (q_build ttOk rfl) rfl (rdh_2 0 8 kr ?_ ?_)
 refine rdho_q rfl trivial (q_load ttOk rfl) rfl (rdh_2 8 9 kr ?_ ?_)
 refine rdho_eff rfl trivial (e_lit ttOk rfl rfl rfl) (rdh_1 9 kr (rdho_eff rfl trivial (e_store ttOk rfl) (rdh_take 10 rfl kr trivial (QuietW.h (qw_assign rfl)) rfl (rdh_endq kr (et (ev_ret (retH rfl (ret_pureN ttOk rfl rfl ?_))))))))
 rotate_left
 refine rdho_eff rfl trivial (e_store ttOk rfl) (rdh_1 8 kr (rdho_eff rfl trivial (e_lit ttOk rfl rfl rfl) (rdh_take 10 rfl kr trivial (QuietW.h (qw_assign rfl)) rfl (rdh_endq kr (et (ev_ret (retH rfl (ret_pureN ttOk rfl rfl ?_))))))))
 rotate_left
 refine rdho_eff rfl trivial (e_lit ttOk rfl rfl rfl) (rdh_1 0 kr (rdho_q rfl trivial (q_load ttOk rfl) rfl (rdh_1 9 kr (rdho_eff rfl trivial (e_store ttOk rfl) (rdh_take 10 rfl kr trivial (QuietW.h (qw_assign rfl)) rfl (rdh_endq kr (et (ev_ret (retH rfl (ret_pureN ttOk rfl rfl ?_))))))))))
 rotate_left
 try have d5 := of_decide_eq_false h5
 refine gn h5 rfl rfl rfl (gn h5 rfl rfl rfl (gn h5 rfl rfl rfl (gn h5 rfl rfl rfl (gn h5 rfl rfl rfl (xo (q_pick_f rfl h5 rfl) rfl (xs rfl rfl (nl (et (ev_cond_kf rfl rfl (sq (rg (xf ttOk rfl rfl (xl ttOk rfl rfl (xf ttOk rfl rfl (xl ttOk rfl rfl (xb ttOk rfl rfl (xs rfl rfl (nl (et (ev_cond rfl (fun h8 => ?_) (fun h8 => ?_)))))))))))))))))))))
 exact absurd (of_decide_eq_true h8) d5
 try have d8 := of_decide_eq_false h8
 refine ev_skip (eb (et (sq (ev_frz (cs := logC n) 3 rfl rfl rfl (fun HF17_0 hHF17_0 => ?_)))))
 refine ev_frz (cs := askC a) 4 rfl rfl rfl (fun HF17_1 hHF17_1 => ?_)
 refine ev_frz (cs := markC (findM n.seen a.client)) 9 rfl rfl rfl (fun HF17_2 hHF17_2 => ?_)
 refine ev_drawh mo (rdh_take 1 rfl kr trivial (QuietW.h (qw_fieldAddr ttOk rfl)) rfl (rdh_take 2 rfl kr trivial (q_loadH ttOk rfl rfl) rfl (rdh_take 3 rfl kr trivial (QuietW.h (qw_fieldAddr ttOk rfl)) rfl (rdh_take 4 rfl kr trivial (q_loadH ttOk rfl rfl) rfl (rdh_take 5 rfl kr trivial (QuietW.h (qw_fieldAddr ttOk rfl)) rfl (rdh_take 6 rfl kr trivial (q_loadH ttOk rfl rfl) rfl (rdh_2 0 7 kr ?_ ?_)))))))
 refine rdho_q rfl trivial (q_load ttOk rfl) rfl (rdh_2 7 9 kr ?_ ?_)
 refine rdho_q rfl trivial (q_build ttOk rfl) rfl (rdh_2 8 9 kr ?_ ?_)
 refine rdho_eff rfl trivial (e_lit ttOk rfl rfl rfl) (rdh_1 9 kr (rdho_eff rfl trivial (e_store ttOk rfl) (rdh_take 10 rfl kr trivial (QuietW.h (qw_assign rfl)) rfl (rdh_endq kr (et (ev_ret (retH rfl (ret_pureN ttOk rfl rfl ?_))))))))
 rotate_left
 refine rdho_eff rfl trivial (e_store ttOk rfl) (rdh_1 8 kr (rdho_eff rfl trivial (e_lit ttOk rfl rfl rfl) (rdh_take 10 rfl kr trivial (QuietW.h (qw_assign rfl)) rfl (rdh_endq kr (et (ev_ret (retH rfl (ret_pureN ttOk rfl rfl ?_))))))))
 rotate_left
 refine rdho_eff rfl trivial (e_store ttOk rfl) (rdh_1 7 kr (rdho_q rfl trivial (q_build ttOk rfl) rfl (rdh_1 8 kr (rdho_eff rfl trivial (e_lit ttOk rfl rfl rfl) (rdh_take 10 rfl kr trivial (QuietW.h (qw_assign rfl)) rfl (rdh_endq kr (et (ev_ret (retH rfl (ret_pureN ttOk rfl rfl ?_))))))))))
 rotate_left
 refine rdho_q rfl trivial (q_build ttOk rfl) rfl (rdh_2 0 8 kr ?_ ?_)
 refine rdho_q rfl trivial (q_load ttOk rfl) rfl (rdh_2 8 9 kr ?_ ?_)
 refine rdho_eff rfl trivial (e_lit ttOk rfl rfl rfl) (rdh_1 9 kr (rdho_eff rfl trivial (e_store ttOk rfl) (rdh_take 10 rfl kr trivial (QuietW.h (qw_assign rfl)) rfl (rdh_endq kr (et (ev_ret (retH rfl (ret_pureN ttOk rfl rfl ?_))))))))
 rotate_left
 refine rdho_eff rfl trivial (e_store ttOk rfl) (rdh_1 8 kr (rdho_eff rfl trivial (e_lit ttOk rfl rfl rfl) (rdh_take 10 rfl kr trivial (QuietW.h (qw_assign rfl)) rfl (rdh_endq kr (et (ev_ret (retH rfl (ret_pureN ttOk rfl rfl ?_))))))))
 rotate_left
 refine rdho_eff rfl trivial (e_lit ttOk rfl rfl rfl) (rdh_1 0 kr (rdho_q rfl trivial (q_load ttOk rfl) rfl (rdh_1 9 kr (rdho_eff rfl trivial (e_store ttOk rfl) (rdh_take 10 rfl kr trivial (QuietW.h (qw_assign rfl)) rfl (rdh_endq kr (et (ev_ret (retH rfl (ret_pureN ttOk rfl rfl ?_))))))))))
 rotate_left
 all_goals
  first
  | (rw [ak_no ‹_›]; simp [RpLe, L2, RcLe, zeroL, zeroD, zeroT, noHead]; done)
  | (rw [ak_bad1 ‹_› ‹_›]; simp [RpLe, L2, RcLe]; done)
  | (rw [ak_bad2 ‹_› ‹_›]; simp [RpLe, L2, RcLe]; done)
  | (rw [ak_fresh ‹_› ‹_› ‹_› ‹_›]; simp [RpLe, L2, RcLe]; done)
  | (rw [ak_fresh ‹_› ‹_› ‹_› ‹_›, hfr]; simp [RpLe, L2, RcLe]; done)
  | (rw [ak_old ‹_› ‹_› ‹_› ‹_›]; simp [RpLe, L2, RcLe]; done)
  | (rw [ak_old ‹_› ‹_› ‹_› (ak_lt ‹_› ‹_›)]; simp [RpLe, L2, RcLe]; done)
  | (rw [ak_wait ‹_› ‹_› ‹_› (ak_le ‹_› ‹_›) ‹_›]; simp [RpLe, L2, RcLe]; done)
  | (rw [ak_wait ‹_› ‹_› ‹_› ‹_› ‹_›]; simp [RpLe, L2, RcLe]; done)
  | (rw [ak_told ‹_› ‹_› ‹_› (ak_le ‹_› ‹_›) ‹_›]; simp [RpLe, L2, RcLe]; done)
  | (have hq : a.seq = (findM n.seen a.client).seq := by assumption
     rw [ak_told ‹_› ‹_› ‹_› hq ‹_›, hq]; simp [RpLe, L2, RcLe]; done)
theorem c_RisenLog1 (n : LogN) : Pure Tryz.prog 33 [many (logC n)] [many' (logR ((risenF n.two).1)), one' (RC.v (.bool ((risenF n.two).2)))] := by
 refine pure_intro (N := 36) Tryz.func33 rfl rfl rfl rfl (fun H w => ?_)
 have c1 := c_Recovered' n.two
 have hr1 := rec_head (t := n.two)
 have hri1 := ri_no (t := n.two)
 have hri2 := ri_yes (t := n.two)
 have hrs := rec_small n.two
 generalize recF n.two = rr at c1 hr1 hri1 hri2 hrs
 refine sq (rg (evl_e (e_box rfl rfl rfl rfl) (evl_e (e_alloc ttOk rfl rfl rfl rfl) (xs rfl rfl (nl (et (sq (rg (xf ttOk rfl rfl (xl ttOk rfl rfl (evl_call (nm := 13) (cf rfl) c1 (rs_of rfl) rfl rfl rfl (xm rfl rfl (xo (q_ext rfl) rfl (xo (q_ext rfl) rfl (xo (q_ext rfl) rfl (xo (q_ext rfl) rfl (evl_e (e_alloc ttOk rfl rfl rfl rfl) (evl_e (e_alloc ttOk rfl rfl rfl rfl) (evl_e (e_alloc ttOk rfl rfl rfl rfl) (xst ttOk rfl rfl (xst ttOk rfl rfl (xst ttOk rfl rfl (xs rfl rfl (nl (et (sq (sq (rg (xm rfl rfl (xo (q_not rfl) rfl (nl (et (ev_cond_n rfl (fun h1 => ?_) (fun h1 => ?_))))))))))))))))))))))))))))))))))
 ·refine sq (rg (xo (q_build ttOk rfl) rfl (xst ttOk rfl rfl (xs rfl rfl (nl (et (ev_ret (evr_then (ret_pureN ttOk rfl rfl ?_)))))))))
  first
  | (rw [hri1 ‹_›]; simp [RpLe, L2, RcLe, zeroL, zeroD, zeroT, noHead]; done)
  | (rw [hri2 ‹_›]; simp [RpLe, L2, RcLe, noHead]; done)
 ·refine ev_skip (et (sq (rg (xf ttOk rfl rfl (xl ttOk rfl rfl (xf ttOk rfl rfl (xl ttOk rfl rfl (evl_call (nm := 26) (cf rfl) (c_SeenOver' rr.2.1.seen rr.2.2.1.entries) (rs_of rfl) rfl rfl rfl (xm rfl rfl (xo (q_ext rfl) rfl (xo (q_ext rfl) rfl (xs rfl rfl (xs rfl rfl (nl (et (sq (ev_drawq [7] mo (rk0 0 rfl (q_load ttOk rfl) rfl (rk0 1 rfl (q_load ttOk rfl) rfl (rk0 2 rfl (q_load ttOk rfl) rfl (rk0 3 rfl (q_move rfl) rfl (rk0 4 rfl (q_load ttOk rfl) rfl (rdk_one 5 kr (rdo_call (nm := 34) rfl trivial (cf rfl) (c_lastOf rr.2.2.1 (hr1 ‹_›).2.1) (rs_of rfl) rfl rfl rfl (rk0 6 rfl (q_build ttOk rfl) rfl (rdk_one 7 kr (rdo_brk rfl rfl trivial (e_store ttOk rfl) (rdb_q 8 rfl kr trivial (q_assign rfl) rfl (rdb_endq kr (et (ev_ret (ret_pureN ttOk rfl rfl ?_))))))))))))))))))))))))))))))))
  first
  | (rw [hri1 ‹_›]; simp [RpLe, L2, RcLe, zeroL, zeroD, zeroT, noHead]; done)
  | (rw [hri2 ‹_›]; simp [RpLe, L2, RcLe, noHead]; done)
theorem Lg.ask1 {n : LogN} {k : Nat} (h : Lg k n) {a : Ask} {now : Int} (ha : askOkF a = true) (hn : 0 ≤ now ∧ now < 1000) (hk : k < 19) : logOkF n = true → askOkF a = true → timeOk now = true → a.seq > (findM n.seen a.client).seq → takesA n (entA n a now) = true :=
 fun _ _ h2 _ => h.takes ha h2 om (by have := h.len; have := h.last; omega)
theorem time_small {now : Int} (hn : 0 ≤ now ∧ now < 1000) : timeOk now = true := inB_iff.2 ⟨by omega, by omega⟩
section
variable {n : LogN} {k : Nat}
theorem Lg.risen (h : Lg k n) (F : List Int) : ∃ r, risenF (fallenLogF n F).two = (r, true) ∧ Lg k r ∧ n.durable ≤ r.durable ∧ n.head.base ≤ r.head.base ∧ r.owe = [] ∧ r.more = false := by
 have h0 := h.rise F
 obtain ⟨hd, es, m, c, h1, h2, h3, h4, h5, h6⟩ := h.j.rise F
 rw [fallen_two h.ok] at h0 ⊢
 rw [h5] at h0
 refine ⟨_, h5, h0, ?_, ?_, rfl, rfl⟩
 ·show n.durable ≤ lastB ⟨hd.base, hd.time, es.take m⟩
  unfold lastB
  simp only [List.length_take]
  omega
 ·show n.head.base ≤ hd.base
  rcases h1 with ⟨rfl, _⟩ | ⟨hm, rfl, _⟩
  ·exact Int.le_refl _
  ·have := (h.j.next hm).2.2.1; omega
end
def Fc (len k c : Nat) : Prop := c ≤ len ∧ (3 * k ≤ c ∨ c = len)
theorem Fc.next {len k c g : Nat} (h : Fc len k c) (hg : g = min 3 (len - c)) : Fc len (k + 1) (c + g) := by
 obtain ⟨h1, h2⟩ := h
 exact ⟨by omega, by omega⟩
structure Nt (k m : Nat) (n : LogN) : Prop where
 lg : Lg k n
 more : n.more = false
 len : n.book.entries.length = m
section
variable {n : LogN} {k m : Nat}
theorem Nt.ask1 (h : Nt k m n) {a : Ask} {now : Int} (ha : askOkF a = true) (hn : 0 ≤ now ∧ now < 1000) (hk : k < 1900) (hm : m < 20) : logOkF n = true → askOkF a = true → timeOk now = true → a.seq > (findM n.seen a.client).seq → takesA n (entA n a now) = true :=
 fun _ _ h2 _ => h.lg.takes ha h2 om (by rw [h.len]; exact hm)
theorem Nt.ask (h : Nt k m n) {a : Ask} {now : Int} (h1 : askerOk a.client = true) (h2 : opOk a.kind a.a a.b a.c a.d = true) (h3 : a.seq = (findM n.seen a.client).seq + 1) (hn : 0 ≤ now ∧ now < 1000) (hk : k < 1800) (hm : m < 20) :
  Nt (k + 1) (m + 1) (askedF n a now).1 ∧ (askedF n a now).1.head = n.head ∧ (askedF n a now).1.durable = n.durable ∧ n.book.entries = (askedF n a now).1.book.entries.take m := by
 obtain ⟨ha, hq, hs⟩ := h.lg.fresh_ok h1 h2 h3 om
 have ht := time_small hn
 have hl := h.len
 have htk := h.lg.takes ha ht om om
 have hw := h.lg.withE ha ht om om hs hq
 have e : (askedF n a now).1 = Go.Proofs.YtinmcdcmidlgpaaGreatDoor.withE n (entA n a now) := by
  rw [ak_fresh h.lg.ok ha ht hs]
  show freshLogF n a now = _
  unfold freshLogF
  rw [htk]
  rfl
 rw [e]
 have he : (Go.Proofs.YtinmcdcmidlgpaaGreatDoor.withE n (entA n a now)).book.entries = n.book.entries ++ [entA n a now] := rfl
 refine ⟨⟨hw, h.more, by simp [he, hl]⟩, rfl, rfl, ?_⟩
 rw [he, List.take_append_of_le_length om, List.take_of_length_le om]
theorem newNt : Nt 0 0 newLogF := ⟨newLg, rfl, rfl⟩
theorem Nt.sync (h : Nt k m n) : Nt k m (syncedF n).1 ∧ (syncedF n).1.head = n.head ∧ (syncedF n).1.durable = n.head.base + m ∧ (syncedF n).1.book = n.book := by
 have hs := h.lg.sync
 have hb := (log_bases h.lg.ok).1
 have hl := h.len
 have e : lastB n.book = n.head.base + m := by unfold lastB; omega
 rw [sy_less h.lg.ok h.more] at hs ⊢
 exact ⟨⟨hs, h.more, h.len⟩, rfl, e, rfl⟩
theorem Nt.held (h : Nt k m n) (hd : n.durable = n.head.base + m) : heldF n = n.book.entries := by
 have hb := (log_bases h.lg.ok).1
 rw [held_yes h.lg.ok, List.take_of_length_le (by rw [h.len]; omega)]
theorem Nt.trim (h : Nt k m n) {x : Int} (hd : n.durable = n.head.base + m) (h1 : n.head.base < x) (h2 : x ≤ n.durable) :
  Nt k (m - (x - n.head.base).toNat) (syncedF (trimAskedF n x)).1 ∧ (syncedF (trimAskedF n x)).1.head.base = x ∧ (syncedF (trimAskedF n x)).1.durable = n.durable := by
 have ht := (h.lg.trim x)
 have hs := ht.sync
 have hb := (log_bases h.lg.ok).1
 have hl := h.len
 have e := h.lg.j.trim_eq h.more (inB_iff.2 ⟨by omega, h2⟩ : inB x (n.head.base + 1) n.durable = true)
 rw [e] at ht hs ⊢
 have hx : inB x n.book.base (lastB n.book) = true := inB_iff.2 ⟨by omega, by unfold lastB; omega⟩
 have e2 := tr_yes h.lg.j.parts.2.2.1 hx
 rw [sy_more ht.ok rfl] at hs ⊢
 have e3 : (nextF n x).base = x := rfl
 simp only [e3, e2] at hs ⊢
 refine ⟨⟨hs, rfl, ?_⟩, trivial, by unfold lastB; omega⟩
 show (n.book.entries.drop _).length = _
 rw [List.length_drop, hl, hb]
theorem Nt.risen (h : Nt k m n) (F : List Int) : ∃ (r : LogN) (j : Nat), risenF (fallenLogF n F).two = (r, true) ∧ Lg k r ∧ r.head.base = n.head.base ∧ heldF r = n.book.entries.take j ∧ n.durable - n.head.base ≤ j ∧ j ≤ m := by
 have h0 := h.lg.rise F
 obtain ⟨hd, es, j, c, h1, h2, h3, h4, h5, h6⟩ := h.lg.j.rise F
 rw [fallen_two h.lg.ok] at h0 ⊢
 rw [h5] at h0
 rcases h1 with ⟨rfl, rfl⟩ | ⟨hm, _⟩
 ·refine ⟨_, j, h5, h0, rfl, ?_, by omega, by rw [← h.len]; exact h3⟩
  have ok : logOkF (riseL n.head (n.book.entries.take j) c) = true := h6.ok
  rw [held_yes ok]
  show (n.book.entries.take j).take (lastB ⟨n.head.base, n.head.time, n.book.entries.take j⟩ - n.head.base).toNat = _
  rw [List.take_of_length_le (by unfold lastB; dsimp only; omega)]
 ·rw [h.more] at hm; cases hm
end
structure Rg (b : Int) (j : Nat) (H : List Entry) (n : LogN) : Prop where
 nt : Nt (20 + j) ((20 - b).toNat + j) n
 base : n.head.base = b
 dur : n.durable = 20
 pre : n.book.entries.take (20 - b).toNat = H
theorem Rg.next {b : Int} {j : Nat} {H : List Entry} {n : LogN} (h : Rg b j H n) (hb : 3 ≤ b ∧ b ≤ 9) (hj : j < b) {a : Ask} {now : Int} (h1 : askerOk a.client = true) (h2 : opOk a.kind a.a a.b a.c a.d = true) (h3 : a.seq = (findM n.seen a.client).seq + 1) (hn : 0 ≤ now ∧ now < 1000) : Rg b (j + 1) H (askedF n a now).1 := by
 obtain ⟨g1, g2, g3, g4⟩ := h.nt.ask h1 h2 h3 hn om om
 refine ⟨g1, by rw [g2, h.base], by rw [g3, h.dur], ?_⟩
 rw [← h.pre, g4, List.take_take]
 congr 1
 omega
theorem pre_take {α : Type} {l H : List α} {a j : Nat} (h : l.take a = H) (ha : H.length = a) (hj : a ≤ j) : (l.take j).take H.length = H := by
 rw [List.take_take, ha, Nat.min_eq_left hj, h]
theorem take_pre {α : Type} {l : List α} {j : Nat} : l.take (l.take j).length = l.take j := by
 rw [List.length_take]
 rcases Nat.lt_or_ge j l.length with h | h
 ·rw [Nat.min_eq_left om]
 ·rw [Nat.min_eq_right om, List.take_length, List.take_of_length_le h]
theorem Rg.fin {b : Int} {H : List Entry} {n : LogN} {j : Nat} (hj : (j : Int) = b) (h : Rg b j H n) (hb : 3 ≤ b ∧ b ≤ 9) : ∃ A : List Entry, heldF (syncedF n).1 = A ∧ A.length = 20 ∧ A.take H.length = H ∧ H.length ≤ 20 ∧
  ∀ F : List Int, ∃ (r : LogN) (B : List Entry), risenF (fallenLogF n F).two = (r, true) ∧ heldF r = B ∧ A.take B.length = B ∧ B.take H.length = H ∧ r.head.base = b ∧ B.length ≤ 20 := by
 obtain ⟨s1, s2, s3, s4⟩ := h.nt.sync
 have hl := h.nt.len
 have hlen : n.book.entries.length = 20 := by omega
 have hH : H.length = (20 - b).toNat := by rw [← h.pre, List.length_take]; omega
 have hA : heldF (syncedF n).1 = n.book.entries := by
  rw [s1.held (by rw [s3, s2]), s4]
 refine ⟨_, hA, hlen, by rw [hH]; exact h.pre, by omega, fun F => ?_⟩
 obtain ⟨r, i, r1, r2, r3, r4, r5, r6⟩ := h.nt.risen F
 rw [h.dur, h.base] at r5
 exact ⟨r, _, r1, r4, take_pre, pre_take h.pre hH om, by rw [r3, h.base], by rw [List.length_take]; omega⟩
theorem Nt.ring {n : LogN} (h : Nt 20 20 n) (h0 : n.head.base = 0) {b : Int} (hb : 3 ≤ b ∧ b ≤ 9) : Rg b 0 (heldF (syncedF (trimAskedF (syncedF n).1 b)).1) (syncedF (trimAskedF (syncedF n).1 b)).1 ∧ (heldF (syncedF (trimAskedF (syncedF n).1 b)).1).length ≤ 20 := by
 obtain ⟨s1, s2, s3, s4⟩ := h.sync
 obtain ⟨t1, t2, t3⟩ := s1.trim (x := b) (by rw [s3, s2]) (by rw [s2, h0]; omega) (by rw [s3, h0]; omega)
 have hd : (syncedF (trimAskedF (syncedF n).1 b)).1.durable = 20 := by rw [t3, s3, h0]; rfl
 rw [s2, h0, show 20 - (b - 0).toNat = (20 - b).toNat by omega] at t1
 have hh := t1.held (by rw [hd, t2]; omega)
 refine ⟨⟨t1, t2, hd, ?_⟩, by rw [hh, t1.len]; omega⟩
 rw [hh, List.take_of_length_le (by rw [t1.len]; exact Nat.le_refl _)]
theorem c_w9Same (l m : List Entry) : Pure Tryz.prog 38 [one (entries l), one (entries m)] (bR (eqN Entry.nums l m)) := by
 refine pure_intro (N := 26) Tryz.func38 rfl rfl rfl rfl (fun H w => ?_)
 refine ev_lenm (t := 0) rfl (fun hL => ?_)
 refine ev_lenm (t := 1) rfl (fun hM => ?_)
 refine sq (rg (xs rfl rfl (nl (et (sq (sq (rg (xm rfl rfl (xo (q_len_map ttOk rfl rfl) rfl (xm rfl rfl (xo (q_len_map ttOk rfl rfl) rfl (xb ttOk rfl rfl (nl (et (ev_cond rfl (fun h1 => ?_) (fun h1 => ?_))))))))))))))))
 ·have d1 := of_decide_eq_true h1
  refine sq (rg (xs rfl rfl (nl (et (ev_ret (evr_then (ret_pure' ttOk rfl rfl (congrArg bR (?_ : _ = _)))))))))
  rw [eqN_len d1]
 ·have d1 := of_decide_eq_false h1
  have hlen : l.length = m.length := by omega
  refine ev_skip (et (sq (sq (rg (xs rfl rfl (nl (et (ev_blk (ev_loop (fun k : Nat => (⟨[(5, iV k), (0, cV (entries l)), (1, cV (entries m))], [], [], []⟩ : St)) (fun k => k ≤ l.length ∧ (l.take k).map Entry.nums = (m.take k).map Entry.nums) (fun k => l.length - k) 0 [] (⟨by simp, by simp⟩) lei ?_)))))))))
  intro k hp
  obtain ⟨p0, p1⟩ := hp
  show Ev _ _ _ _ (⟨[(5, iV k), (0, cV (entries l)), (1, cV (entries m))], [], [], []⟩ : St)
  refine sq (sq (rg (xm rfl rfl (xm rfl rfl (xo (q_len_map ttOk rfl rfl) rfl (xb ttOk rfl rfl (nl (et (ev_cond rfl (fun h2 => ?_) (fun h2 => ?_))))))))))
  ·have d2 := of_decide_eq_true h2
   refine ev_skip (et (sq (ev_blk (sq (ev_drawq [] mo (rk0 0 rfl (q_move rfl) rfl (rk0 1 rfl (q_move rfl) rfl (rk0 2 rfl (q_ix_map ttOk rfl rfl rfl rfl om) rfl (rk0 3 rfl (q_load ttOk rfl) rfl (rk0 4 rfl (q_move rfl) rfl (rk0 5 rfl (q_move rfl) rfl (rk0 6 rfl (q_ix_map ttOk rfl rfl rfl rfl om) rfl (rk0 7 rfl (q_load ttOk rfl) rfl ?_)))))))))))))
   first | refine rk0 8 rfl (q_eqT (n := 9) kr rfl rfl rfl rfl rfl rfl rfl) rfl ?_ | refine rk0 8 rfl (q_bin ttOk rfl) rfl ?_
   refine rdk_endq kr (et (ev_cond rfl (fun h3 => ?_) (fun h3 => ?_)))
   ·have d3 := of_decide_eq_true h3
    refine sq (rg (xs rfl rfl (nl (et (ev_ret (evr_blk (evr_then (evr_then (evr_blk (evr_then (ret_pure' ttOk rfl rfl (congrArg bR (?_ : _ = _)))))))))))))
    rw [eqN_at (k := k) om om d3]
   ·have d3 := of_decide_eq_false h3
    refine ev_skip (eb (et (rg (xm rfl rfl (xa rfl rfl rfl om rfl (xs rfl rfl (nl (eve_round (k + 1) [] ?hp lei))))))))
    case hp => exact ⟨⟨by omega, takeN om om p1 (Decidable.not_not.1 d3)⟩, by omega⟩
  ·have d2 := of_decide_eq_false h2
   refine ev_exit (evx_then (evx_then (evx_hit (et (sq (rg (xs rfl rfl (nl (et (ev_ret (ret_pure' ttOk rfl rfl (congrArg bR (?_ : _ = _)))))))))))))
   exact (takeN_all om hlen p1).symm
end Go.Proofs.YtinmcdcmidlgpaaGreatDoor
