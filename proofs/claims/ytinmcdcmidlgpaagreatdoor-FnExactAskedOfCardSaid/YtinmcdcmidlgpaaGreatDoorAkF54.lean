/- Walks of functions of the program, printed by a program of the prover. -/
import Derived.Test.YtinmcdcmidlgpaaGreatDoorAkF56
import Derived.Test.YtinmcdcmidlgpaaGreatDoorAkVL
import Derived.LaidEql
import Derived.Stop.Asserts
import Derived.RowKitTokens
namespace Go.Proofs.YtinmcdcmidlgpaaGreatDoor
open Go.ChangeShapes Go.WideShapes Go.ChangeAt Go.RowKit
set_option linter.unusedVariables false
set_option linter.unusedSimpArgs false
set_option maxHeartbeats 1000000
set_option maxRecDepth 100000
attribute [local irreducible] EvL Ev EvE Quiet Eff Pure RDk RDb RDo
theorem c_AskedOf1 (n : LogN) (a : Ask) (now : Int) (hT : logOkF n = true → askOkF a = true → timeOk now = true → a.seq > (findM n.seen a.client).seq → takesA n (entA n a now) = true) : Pure Tryz.prog 16 [many (logC n), many (askC a), one (iC now)] [many' (logR ((askedF n a now).1)), one' (acksR (askedF n a now).2)] := by
 refine pure_intro (N := 97) Tryz.func16 rfl rfl rfl rfl (fun H w => ?_)
 have cl := c_LogOk' n
 rw [logOk_same] at cl
 refine sq (rg (evl_e (e_box rfl rfl rfl rfl) (evl_e (e_box rfl rfl rfl rfl) (evl_e (e_alloc ttOk rfl rfl rfl rfl) (xs rfl rfl (nl (et (sq (sq (rg (xl ttOk rfl rfl (evl_call (nm := 14) (cf rfl) cl (rs_of rfl) rfl rfl rfl (xo (q_not rfl) rfl (nl (et (ev_cond_n rfl (fun h1 => ?_) (fun h1 => ?_)))))))))))))))))
 try have d1 := of_decide_eq_false h1
 refine sq (rg (xo (q_build ttOk rfl) rfl (xst ttOk rfl rfl (xs rfl rfl (nl (et (ev_ret (evr_then (ret_pureN ttOk rfl rfl ?_)))))))))
 rotate_left
 try have d1 := of_decide_eq_true h1
 obtain ⟨hk, hh, hb, he1, he2⟩ := log_all h1
 have hsm := log_small h1
 have hso := of_sok (log_seen h1).2.2
 refine ev_skip (et (sq (rg (xl ttOk rfl rfl (evl_call (nm := 18) (cf rfl) (c_copyLog n h1) (rs_of rfl) rfl rfl rfl (evl_e (e_alloc ttOk rfl rfl rfl rfl) (xst ttOk rfl rfl (nl (et (sq (sq (rg (xl ttOk rfl rfl (evl_call (nm := 20) (cf rfl) (c_AskOk' a) (rs_of rfl) rfl rfl rfl (xo (q_not rfl) rfl (xm rfl rfl (evl_partn rfl rfl (fun h2 => ?_) (fun h2 => ?_))))))))))))))))))
 try have d2 := of_decide_eq_false h2
 refine gn (nt h2) rfl rfl rfl (gn (nt h2) rfl rfl rfl (gn (nt h2) rfl rfl rfl (xo (q_pick_t rfl (nt h2) rfl) rfl (nl (et (ev_cond_kt rfl rfl (sq (rg (xl ttOk rfl rfl (xst ttOk rfl rfl (xs rfl rfl (nl (et (ev_ret (evr_then (ret_pureN ttOk rfl rfl ?_))))))))))))))))
 rotate_left
 try have d2 := of_decide_eq_true h2
 refine gm (nf h2) rfl rfl rfl rfl (evl_callg rfl rfl (nf h2) (nm := 24) (cf rfl) (c_TimeOk' now) (rs_of rfl) rfl rfl rfl (go (nf h2) rfl rfl (q_not rfl) rfl (xo (q_pick_f rfl (nf h2) rfl) rfl (nl (et (ev_cond_n rfl (fun h3 => ?_) (fun h3 => ?_)))))))
 try have d3 := of_decide_eq_false h3
 refine sq (rg (xl ttOk rfl rfl (xst ttOk rfl rfl (xs rfl rfl (nl (et (ev_ret (evr_then (ret_pureN ttOk rfl rfl ?_)))))))))
 rotate_left
 try have d3 := of_decide_eq_true h3
 refine ev_skip (et (sq (rg (xf ttOk rfl rfl (xl ttOk rfl rfl (xf ttOk rfl rfl (xl ttOk rfl rfl (evl_call (nm := 32) (cf rfl) (c_markOf n.seen a.client) (rs_of rfl) rfl rfl rfl (evl_e (e_alloc ttOk rfl rfl rfl rfl) (xst ttOk rfl rfl (nl (et (sq (ev_blk (sq (rg (xf ttOk rfl rfl (xl ttOk rfl rfl (xf ttOk rfl rfl (xl ttOk rfl rfl (xb ttOk rfl rfl (xs rfl rfl (nl (et (ev_cond rfl (fun h4 => ?_) (fun h4 => ?_))))))))))))))))))))))))))
 try have d4 := of_decide_eq_true h4
 have hfr : freshLogF n a now = withE n (entA n a now) := by unfold freshLogF; rw [hT h1 h2 h3 ‹_›]; rfl
 refine sq (rg (xl ttOk rfl rfl (xl ttOk rfl rfl (xm rfl rfl (evl_takec (nm := 43) (cf rfl) rfl rfl (c_recorded n a now h1 (hT h1 h2 h3 ‹_›)) rfl (rs_of rfl) rfl rfl rfl (xm rfl rfl (xo (q_ext rfl) rfl (xo (q_ext rfl) rfl (evl_e (e_alloc ttOk rfl rfl rfl rfl) (xst ttOk rfl rfl (xs rfl rfl (nl (et (sq (rg (evl_e (e_alloc ttOk rfl rfl rfl rfl) (nl (et (sq (sq (rg (xm rfl rfl (xo (q_mkif kr rfl) rfl (evl_asnil (cf rfl) as_nil rfl rfl (xm rfl rfl (gn rfl rfl rfl rfl (gn rfl rfl rfl rfl (gn rfl rfl rfl rfl (gn rfl rfl rfl rfl (xo (q_pick_f rfl rfl rfl) rfl (nl (et (ev_cond_kf rfl rfl (ev_skip (et (sq (rg (xl ttOk rfl rfl (xst ttOk rfl rfl (xs rfl rfl (nl (et (ev_ret (evr_blk (evr_then (ret_pureN ttOk rfl rfl ?_))))))))))))))))))))))))))))))))))))))))))))))
 rotate_left
 try have d4 := of_decide_eq_false h4
 refine sq (rg (xf ttOk rfl rfl (xl ttOk rfl rfl (xf ttOk rfl rfl (xl ttOk rfl rfl (xb ttOk rfl rfl (xm rfl rfl (evl_part rfl rfl (fun h5 => ?_) (fun h5 => ?_)))))))))
 try have d5 := of_decide_eq_true h5
 refine go h5 rfl rfl (q_fieldAddr ttOk rfl) rfl (go h5 rfl rfl (q_load ttOk rfl) rfl (go h5 rfl rfl (q_fieldAddr ttOk rfl) rfl (go h5 rfl rfl (q_load ttOk rfl) rfl (go h5 rfl rfl (q_bin ttOk rfl) rfl (xo (q_pick_t rfl h5 rfl) rfl (xs rfl rfl (nl (et (ev_cond rfl (fun h6 => ?_) (fun h6 => ?_))))))))))
 try have d6 := of_decide_eq_true h6
 refine sq (rg (xl ttOk rfl rfl (xst ttOk rfl rfl (xs rfl rfl (nl (et (ev_ret (evr_blk (evr_then (ret_pureN ttOk rfl rfl ?_))))))))))
 rotate_left
 try have d6 := of_decide_eq_false h6
 refine sq (rg (xf ttOk rfl rfl (xl ttOk rfl rfl (xf ttOk rfl rfl (xl ttOk rfl rfl (xb ttOk rfl rfl (xs rfl rfl (nl (et (ev_cond rfl (fun h7 => ?_) (fun h7 => ?_)))))))))))
 try have d7 := of_decide_eq_true h7
 refine sq (ev_frz (cs := logC n) 3 rfl rfl rfl (fun HF16_0 hHF16_0 => ?_))
 refine ev_frz (cs := askC a) 4 rfl rfl rfl (fun HF16_1 hHF16_1 => ?_)
 refine ev_frz (cs := markC (findM n.seen a.client)) 9 rfl rfl rfl (fun HF16_2 hHF16_2 => ?_)
 refine ev_drawh mo (rdh_take 1 rfl kr trivial (QuietW.h (qw_fieldAddr ttOk rfl)) rfl (rdh_take 2 rfl kr trivial (q_loadH ttOk rfl rfl) rfl (rdh_take 3 rfl kr trivial (QuietW.h (qw_fieldAddr ttOk rfl)) rfl (rdh_take 4 rfl kr trivial (q_loadH ttOk rfl rfl) rfl (rdh_take 5 rfl kr trivial (QuietW.h (qw_fieldAddr ttOk rfl)) rfl (rdh_take 6 rfl kr trivial (q_loadH ttOk rfl rfl) rfl (rdh_take 7 rfl kr trivial (QuietW.h (qw_fieldAddr ttOk rfl)) rfl (rdh_take 8 rfl kr trivial (q_loadH ttOk rfl rfl) rfl (rdh_2 0 9 kr ?_ ?_)))))))))
 refine rdho_q rfl trivial (q_load ttOk rfl) rfl (rdh_2 9 11 kr ?_ ?_)
 refine rdho_q rfl trivial (q_build ttOk rfl) rfl (rdh_2 10 11 kr ?_ ?_)
 refine rdho_eff rfl trivial (e_lit ttOk rfl rfl rfl) (rdh_1 11 kr (rdho_eff rfl trivial (e_store ttOk rfl) (rdh_take 12 rfl kr trivial (QuietW.h (qw_assign rfl)) rfl (rdh_endq kr (et (ev_ret (evr_blk (evr_then (retH rfl (ret_pureN ttOk rfl rfl ?_))))))))))
 rotate_left
 refine rdho_eff rfl trivial (e_store ttOk rfl) (rdh_1 10 kr (rdho_eff rfl trivial (e_lit ttOk rfl rfl rfl) (rdh_take 12 rfl kr trivial (QuietW.h (qw_assign rfl)) rfl (rdh_endq kr (et (ev_ret (evr_blk (evr_then (retH rfl (ret_pureN ttOk rfl rfl ?_))))))))))
 rotate_left
 refine rdho_eff rfl trivial (e_store ttOk rfl) (rdh_1 9 kr (rdho_q rfl trivial (q_build ttOk rfl) rfl (rdh_1 10 kr (rdho_eff rfl trivial (e_lit ttOk rfl rfl rfl) (rdh_take 12 rfl kr trivial (QuietW.h (qw_assign rfl)) rfl (rdh_endq kr (et (ev_ret (evr_blk (evr_then (retH rfl (ret_pureN ttOk rfl rfl ?_))))))))))))
 rotate_left
 refine rdho_q rfl trivial (q_build ttOk rfl) rfl (rdh_2 0 10 kr ?_ ?_)
 refine rdho_q rfl trivial (q_load ttOk rfl) rfl (rdh_2 10 11 kr ?_ ?_)
 refine rdho_eff rfl trivial (e_lit ttOk rfl rfl rfl) (rdh_1 11 kr (rdho_eff rfl trivial (e_store ttOk rfl) (rdh_take 12 rfl kr trivial (QuietW.h (qw_assign rfl)) rfl (rdh_endq kr (et (ev_ret (evr_blk (evr_then (retH rfl (ret_pureN ttOk rfl rfl ?_))))))))))
 rotate_left
 refine rdho_eff rfl trivial (e_store ttOk rfl) (rdh_1 10 kr (rdho_eff rfl trivial (e_lit ttOk rfl rfl rfl) (rdh_take 12 rfl kr trivial (QuietW.h (qw_assign rfl)) rfl (rdh_endq kr (et (ev_ret (evr_blk (evr_then (retH rfl (ret_pureN ttOk rfl rfl ?_))))))))))
 rotate_left
 refine rdho_eff rfl trivial (e_lit ttOk rfl rfl rfl) (rdh_1 0 kr (rdho_q rfl trivial (q_load ttOk rfl) rfl (rdh_1 11 kr (rdho_eff rfl trivial (e_store ttOk rfl) (rdh_take 12 rfl kr trivial (QuietW.h (qw_assign rfl)) rfl (rdh_endq kr (et (ev_ret (evr_blk (evr_then (retH rfl (ret_pureN ttOk rfl rfl ?_))))))))))))
 rotate_left
 try have d7 := of_decide_eq_false h7
 refine ev_skip (eb (et (sq (ev_frz (cs := logC n) 3 rfl rfl rfl (fun HF17_0 hHF17_0 => ?_)))))
 refine ev_frz (cs := askC a) 4 rfl rfl rfl (fun HF17_1 hHF17_1 => ?_)
 refine ev_frz (cs := markC (findM n.seen a.client)) 9 rfl rfl rfl (fun HF17_2 hHF17_2 => ?_)
 refine ev_drawh mo (rdh_take 1 rfl kr trivial (QuietW.h (qw_fieldAddr ttOk rfl)) rfl (rdh_take 2 rfl kr trivial (q_loadH ttOk rfl rfl) rfl (rdh_take 3 rfl kr trivial (QuietW.h (qw_fieldAddr ttOk rfl)) rfl (rdh_take 4 rfl kr trivial (q_loadH ttOk rfl rfl) rfl (rdh_take 5 rfl kr trivial (QuietW.h (qw_fieldAddr ttOk rfl)) rfl (rdh_take 6 rfl kr trivial (q_loadH ttOk rfl rfl) rfl (rdh_2 0 7 kr ?_ ?_)))))))
 refine rdho_q rfl trivial (q_load ttOk rfl) rfl (rdh_2 7 9 kr ?_ ?_)
 refine rdho_q rfl trivial (q_build ttOk rfl) rfl (rdh_2 8 9 kr ?_ ?_)
 refine rdho_eff rfl trivial (e_lit ttOk rfl rfl rfl) (rdh_1 9 kr (rdho_eff rfl trivial (e_store ttOk rfl) (rdh_take 10 rfl kr trivial (QuietW.h (qw_assign rfl)) rfl (rdh_endq kr (et (ev_ret (retH rfl (ret_pureN ttOk rfl rfl ?_))))))))
 rotate_left
 refine rdho_eff rfl trivial (e_store ttOk rfl) (rdh_1 8 kr (rdho_eff rfl trivial (e_lit ttOk rfl rfl rfl) (rdh_take 10 rfl kr trivial (QuietW.h (qw_assign rfl)) rfl (rdh_endq kr (et (ev_ret (retH rfl (ret_pureN ttOk rfl rfl ?_))))))))
 rotate_left
 refine rdho_eff rfl trivial (e_store ttOk rfl) (rdh_1 7 kr (rdho_q rfl trivial (q_build ttOk rfl) rfl (rdh_1 8 kr (rdho_eff rfl trivial (e_lit ttOk rfl rfl rfl) (rdh_take 10 rfl kr trivial (QuietW.h (qw_assign rfl)) rfl (rdh_endq kr (et (ev_ret (retH rfl (ret_pureN ttOk rfl rfl ?_))))))))))
 rotate_left
 refine rdho_q rfl trivial (q_build ttOk rfl) rfl (rdh_2 0 8 kr ?_ ?_)
 refine rdho_q rfl trivial (q_load ttOk rfl) rfl (rdh_2 8 9 kr ?_ ?_)
 refine rdho_eff rfl trivial (e_lit ttOk rfl rfl rfl) (rdh_1 9 kr (rdho_eff rfl trivial (e_store ttOk rfl) (rdh_take 10 rfl kr trivial (QuietW.h (qw_assign rfl)) rfl (rdh_endq kr (et (ev_ret (retH rfl (ret_pureN ttOk rfl rfl ?_))))))))
 rotate_left
 refine rdho_eff rfl trivial (e_store ttOk rfl) (rdh_1 8 kr (rdho_eff rfl trivial (e_lit ttOk rfl rfl rfl) (rdh_take 10 rfl kr trivial (QuietW.h (qw_assign rfl)) rfl (rdh_endq kr (et (ev_ret (retH rfl (ret_pureN ttOk rfl rfl ?_))))))))
 rotate_left
 refine rdho_eff rfl trivial (e_lit ttOk rfl rfl rfl) (rdh_1 0 kr (rdho_q rfl trivial (q_load ttOk rfl) rfl (rdh_1 9 kr (rdho_eff rfl trivial (e_store ttOk rfl) (rdh_take 10 rfl kr trivial (QuietW.h (qw_assign rfl)) rfl (rdh_endq kr (et (ev_ret (retH rfl (ret_pureN ttOk rfl rfl ?_))))))))))
 rotate_left
 try have d5 := of_decide_eq_false h5
 refine gn h5 rfl rfl rfl (gn h5 rfl rfl rfl (gn h5 rfl rfl rfl (gn h5 rfl rfl rfl (gn h5 rfl rfl rfl (xo (q_pick_f rfl h5 rfl) rfl (xs rfl rfl (nl (et (ev_cond_kf rfl rfl (sq (rg (xf ttOk rfl rfl (xl ttOk rfl rfl (xf ttOk rfl rfl (xl ttOk rfl rfl (xb ttOk rfl rfl (xs rfl rfl (nl (et (ev_cond rfl (fun h8 => ?_) (fun h8 => ?_)))))))))))))))))))))
 exact absurd (of_decide_eq_true h8) d5
 try have d8 := of_decide_eq_false h8
 refine ev_skip (eb (et (sq (ev_frz (cs := logC n) 3 rfl rfl rfl (fun HF17_0 hHF17_0 => ?_)))))
 refine ev_frz (cs := askC a) 4 rfl rfl rfl (fun HF17_1 hHF17_1 => ?_)
 refine ev_frz (cs := markC (findM n.seen a.client)) 9 rfl rfl rfl (fun HF17_2 hHF17_2 => ?_)
 refine ev_drawh mo (rdh_take 1 rfl kr trivial (QuietW.h (qw_fieldAddr ttOk rfl)) rfl (rdh_take 2 rfl kr trivial (q_loadH ttOk rfl rfl) rfl (rdh_take 3 rfl kr trivial (QuietW.h (qw_fieldAddr ttOk rfl)) rfl (rdh_take 4 rfl kr trivial (q_loadH ttOk rfl rfl) rfl (rdh_take 5 rfl kr trivial (QuietW.h (qw_fieldAddr ttOk rfl)) rfl (rdh_take 6 rfl kr trivial (q_loadH ttOk rfl rfl) rfl (rdh_2 0 7 kr ?_ ?_)))))))
 refine rdho_q rfl trivial (q_load ttOk rfl) rfl (rdh_2 7 9 kr ?_ ?_)
 refine rdho_q rfl trivial (q_build ttOk rfl) rfl (rdh_2 8 9 kr ?_ ?_)
 refine rdho_eff rfl trivial (e_lit ttOk rfl rfl rfl) (rdh_1 9 kr (rdho_eff rfl trivial (e_store ttOk rfl) (rdh_take 10 rfl kr trivial (QuietW.h (qw_assign rfl)) rfl (rdh_endq kr (et (ev_ret (retH rfl (ret_pureN ttOk rfl rfl ?_))))))))
 rotate_left
 refine rdho_eff rfl trivial (e_store ttOk rfl) (rdh_1 8 kr (rdho_eff rfl trivial (e_lit ttOk rfl rfl rfl) (rdh_take 10 rfl kr trivial (QuietW.h (qw_assign rfl)) rfl (rdh_endq kr (et (ev_ret (retH rfl (ret_pureN ttOk rfl rfl ?_))))))))
 rotate_left
 refine rdho_eff rfl trivial (e_store ttOk rfl) (rdh_1 7 kr (rdho_q rfl trivial (q_build ttOk rfl) rfl (rdh_1 8 kr (rdho_eff rfl trivial (e_lit ttOk rfl rfl rfl) (rdh_take 10 rfl kr trivial (QuietW.h (qw_assign rfl)) rfl (rdh_endq kr (et (ev_ret (retH rfl (ret_pureN ttOk rfl rfl ?_))))))))))
 rotate_left
 refine rdho_q rfl trivial (q_build ttOk rfl) rfl (rdh_2 0 8 kr ?_ ?_)
 refine rdho_q rfl trivial (q_load ttOk rfl) rfl (rdh_2 8 9 kr ?_ ?_)
 refine rdho_eff rfl trivial (e_lit ttOk rfl rfl rfl) (rdh_1 9 kr (rdho_eff rfl trivial (e_store ttOk rfl) (rdh_take 10 rfl kr trivial (QuietW.h (qw_assign rfl)) rfl (rdh_endq kr (et (ev_ret (retH rfl (ret_pureN ttOk rfl rfl ?_))))))))
 rotate_left
 refine rdho_eff rfl trivial (e_store ttOk rfl) (rdh_1 8 kr (rdho_eff rfl trivial (e_lit ttOk rfl rfl rfl) (rdh_take 10 rfl kr trivial (QuietW.h (qw_assign rfl)) rfl (rdh_endq kr (et (ev_ret (retH rfl (ret_pureN ttOk rfl rfl ?_))))))))
 rotate_left
 refine rdho_eff rfl trivial (e_lit ttOk rfl rfl rfl) (rdh_1 0 kr (rdho_q rfl trivial (q_load ttOk rfl) rfl (rdh_1 9 kr (rdho_eff rfl trivial (e_store ttOk rfl) (rdh_take 10 rfl kr trivial (QuietW.h (qw_assign rfl)) rfl (rdh_endq kr (et (ev_ret (retH rfl (ret_pureN ttOk rfl rfl ?_))))))))))
 rotate_left
 all_goals
  first
  | (rw [ak_no ‹_›]; simp [RpLe, L2, RcLe, zeroL, zeroD, zeroT, noHead]; done)
  | (rw [ak_bad1 ‹_› ‹_›]; simp [RpLe, L2, RcLe]; done)
  | (rw [ak_bad2 ‹_› ‹_›]; simp [RpLe, L2, RcLe]; done)
  | (rw [ak_fresh ‹_› ‹_› ‹_› ‹_›]; simp [RpLe, L2, RcLe]; done)
  | (rw [ak_fresh ‹_› ‹_› ‹_› ‹_›, hfr]; simp [RpLe, L2, RcLe]; done)
  | (rw [ak_old ‹_› ‹_› ‹_› ‹_›]; simp [RpLe, L2, RcLe]; done)
  | (rw [ak_old ‹_› ‹_› ‹_› (ak_lt ‹_› ‹_›)]; simp [RpLe, L2, RcLe]; done)
  | (rw [ak_wait ‹_› ‹_› ‹_› (ak_le ‹_› ‹_›) ‹_›]; simp [RpLe, L2, RcLe]; done)
  | (rw [ak_wait ‹_› ‹_› ‹_› ‹_› ‹_›]; simp [RpLe, L2, RcLe]; done)
  | (rw [ak_told ‹_› ‹_› ‹_› (ak_le ‹_› ‹_›) ‹_›]; simp [RpLe, L2, RcLe]; done)
  | (have hq : a.seq = (findM n.seen a.client).seq := by assumption
     rw [ak_told ‹_› ‹_› ‹_› hq ‹_›, hq]; simp [RpLe, L2, RcLe]; done)
end Go.Proofs.YtinmcdcmidlgpaaGreatDoor
namespace Go.Proofs.YtinmcdcmidlgpaaGreatDoor
open Go.ChangeShapes Go.WideShapes Go.ChangeAt Go.RowKit
set_option linter.unusedVariables false
set_option linter.unusedSimpArgs false
set_option maxHeartbeats 1000000
set_option maxRecDepth 100000
attribute [local irreducible] EvL Ev EvE Quiet Eff Pure RDk RDb RDo
open Go.Extern.Stop Go.Stop Go.Extern
theorem as_valueOf (t : Addr) (w : World) : (ReflectliteValue.unpack (.iface 124 (.pointer (some t)))).run Tryz.prog w
 = .ok (.agg #[.pointer (some ⟨2, 124, none⟩), .pointer (some ⟨w.heap.size, 0, none⟩), .int .u64 150]) (w.alloc (.cells #[.pointer (some t)] 124)) := by kernel_rfl
theorem as_type (a : Addr) (w : World) : (ReflectliteValue.methodAny (ReflectliteValue.valueError "reflectlite.Value.Type" 0) (fun t _ _ _ => ReflectliteType.toType t) #[.agg #[.pointer (some ⟨2, 124, none⟩), .pointer (some a), .int .u64 150]]).run Tryz.prog w
 = .ok (.iface 239 (.agg #[.pointer (some ⟨2, 124, none⟩)])) w := by kernel_rfl
theorem as_methodKind (h : Value) (w : World) : (Go.method 419 239 (.agg #[h]) "Kind").run Tryz.prog w = .ok (277, h) w := by kernel_rfl
theorem as_kindP (w : World) : ((ReflectliteType.abiMethod fun t => (fun a : Nat => Value.int IntKind.u8 (a : Int)) <$> Rtype.kind t) #[.pointer (some ⟨2, 124, none⟩)]).run Tryz.prog w = .ok (.int .u8 22) w := by kernel_rfl
theorem as_kindE (w : World) : ((ReflectliteType.abiMethod fun t => (fun a : Nat => Value.int IntKind.u8 (a : Int)) <$> Rtype.kind t) #[.pointer (some ⟨2, 122, none⟩)]).run Tryz.prog w = .ok (.int .u8 22) w := by kernel_rfl
theorem as_rlm (z : Sem Value) (f : TypeId → Addr → Nat → Nat → Sem Value) (v : Value) :
 ReflectliteValue.method z f #[v] = (do match ← ReflectliteValue.parts v with | none => z | some (t, a, fl) => f t a fl (fl % 32)) := rfl
theorem as_parts (a : Addr) (w : World) : (ReflectliteValue.parts (.agg #[.pointer (some ⟨2, 124, none⟩), .pointer (some a), .int .u64 150])).run Tryz.prog w = .ok (some (124, a, 150)) w := by kernel_rfl
theorem as_isNil (a p : Addr) (W : World) (ha : W.cell? a = some (.pointer (some p))) :
  (ReflectliteValue.method (ReflectliteValue.valueError "reflectlite.Value.IsNil" 0) ReflectliteValue.isNil #[.agg #[.pointer (some ⟨2, 124, none⟩), .pointer (some a), .int .u64 150]]).run Tryz.prog W = .ok (.bool false) W := by
 rw [as_rlm]
 simp only [Sem.run_bind, as_parts, Result.andThen]
 simp [ReflectliteValue.isNil, loadVar, isAgg, underlying, Tryz.underlying124, ha, Result.andThen]
theorem as_methodElem (h : Value) (w : World) : (Go.method 419 239 (.agg #[h]) "Elem").run Tryz.prog w = .ok (291, .agg #[h]) w := by kernel_rfl
theorem as_methodImplements (h : Value) (w : World) : (Go.method 419 239 (.agg #[h]) "Implements").run Tryz.prog w = .ok (292, .agg #[h]) w := by kernel_rfl
theorem as_methodAssignableTo (h : Value) (w : World) : (Go.method 419 239 (.agg #[h]) "AssignableTo").run Tryz.prog w = .ok (289, .agg #[h]) w := by kernel_rfl
theorem as_elemT (w : World) : (ReflectliteType.method ReflectliteType.elem #[.agg #[.pointer (some ⟨2, 124, none⟩)]]).run Tryz.prog w = .ok (.iface 239 (.agg #[.pointer (some ⟨2, 122, none⟩)])) w := by kernel_rfl
theorem as_implements (w : World) : (ReflectliteType.relation "Implements" ReflectliteType.implements_ #[.agg #[.pointer (some ⟨2, 122, none⟩)], .iface 239 (.agg #[.pointer (some ⟨2, 119, none⟩)])]).run Tryz.prog w = .ok (.bool true) w := by kernel_rfl
theorem as_typeOf (v : Value) (w : World) : (ReflectliteType.typeOf #[.iface 122 v]).run Tryz.prog w = .ok (.iface 239 (.agg #[.pointer (some ⟨2, 122, none⟩)])) w := by kernel_rfl
theorem as_assignable (w : World) : (ReflectliteType.relation "AssignableTo" ReflectliteType.assignableTo #[.agg #[.pointer (some ⟨2, 122, none⟩)], .iface 239 (.agg #[.pointer (some ⟨2, 122, none⟩)])]).run Tryz.prog w = .ok (.bool true) w := by kernel_rfl
theorem as_valueE (e : Addr) (w : World) : (ReflectliteValue.unpack (.iface 122 (.pointer (some e)))).run Tryz.prog w
 = .ok (.agg #[.pointer (some ⟨2, 122, none⟩), .pointer (some ⟨w.heap.size, 0, none⟩), .int .u64 150]) (w.alloc (.cells #[.pointer (some e)] 122)) := by kernel_rfl
theorem as_elemOf (w : World) : (Rtype.elem? 124).run Tryz.prog w = .ok (some 122) w := by kernel_rfl
theorem as_mkE (p : Addr) (w : World) : (ReflectliteValue.mk 122 p ReflectliteValue.flagAddr).run Tryz.prog w = .ok (.agg #[.pointer (some ⟨2, 122, none⟩), .pointer (some p), .int .u64 406]) w := by kernel_rfl
theorem as_elemV (a p : Addr) (W : World) (ha : W.cell? a = some (.pointer (some p))) :
    (ReflectliteValue.method (ReflectliteValue.valueError "reflectlite.Value.Elem" 0) ReflectliteValue.elem #[.agg #[.pointer (some ⟨2, 124, none⟩), .pointer (some a), .int .u64 150]]).run Tryz.prog W
      = .ok (.agg #[.pointer (some ⟨2, 122, none⟩), .pointer (some p), .int .u64 406]) W := by
  rw [as_rlm]
  simp only [Sem.run_bind, as_parts, Result.andThen]
  simp [ReflectliteValue.elem, loadVar, isAgg, underlying, Tryz.underlying124, ha, Result.andThen, as_elemOf, as_mkE]
theorem as_rls (v x : Value) : ReflectliteValue.set #[v, x] = (do
 let (some (dst, a, fl), some (src, b, _)) := (← ReflectliteValue.parts v, ← ReflectliteValue.parts x)
  | unsupported (.noEntry "extern/(internal/reflectlite.Value).Set.zeroValue")
 if fl / ReflectliteValue.flagAddr % 2 == 0 then unsupported (.noEntry "extern/(internal/reflectlite.Value).Set.unaddressable")
 let val ← loadVar src b
 if ← Rtype.directlyAssignable dst src then storeVar dst a val
 else if ← Rtype.implements dst src then
  if (← Rtype.kind src) == 20 then
   match val with
   | .nilIface => unsupported (.noEntry "extern/reflectlite: a nil value of one interface type handed on as a value of another")
   | _ => storeVar dst a val
  else storeVar dst a (.iface src val)
 else panicString ("reflectlite.Set: value of type " ++ (← Rtype.spelt src) ++ " is not assignable to type " ++ (← Rtype.spelt dst))
 pure (.tuple #[])) := rfl
theorem as_partsA (a : Addr) (w : World) : (ReflectliteValue.parts (.agg #[.pointer (some ⟨2, 122, none⟩), .pointer (some a), .int .u64 406])).run Tryz.prog w = .ok (some (122, a, 406)) w := by kernel_rfl
theorem as_partsE (a : Addr) (w : World) : (ReflectliteValue.parts (.agg #[.pointer (some ⟨2, 122, none⟩), .pointer (some a), .int .u64 150])).run Tryz.prog w = .ok (some (122, a, 150)) w := by kernel_rfl
theorem as_direct (w : World) : (Rtype.directlyAssignable 122 122).run Tryz.prog w = .ok true w := by kernel_rfl
theorem as_set (ta b e : Addr) (old : Value) (W : World) (hb : W.cell? b = some (.pointer (some e))) (ht : W.cell? ta = some old) (hf : W.frozen? ta = false) :
    (ReflectliteValue.set #[.agg #[.pointer (some ⟨2, 122, none⟩), .pointer (some ta), .int .u64 406], .agg #[.pointer (some ⟨2, 122, none⟩), .pointer (some b), .int .u64 150]]).run Tryz.prog W
      = .ok (.tuple #[]) (W.setCell ta (.pointer (some e))) := by
  rw [as_rls]
  simp only [Sem.run_bind, as_partsA, as_partsE, Result.andThen]
  simp [ReflectliteValue.flagAddr, loadVar, isAgg, underlying, Tryz.underlying122, hb, Result.andThen, as_direct, storeVar, Value.cells, storeCells, Addr.add]
  rw [run_store Tryz.prog W ta _ _ (by rfl)]
  simp [ht, hf]
@[reducible] def asW (w : World) (e t : Addr) : World := (((w.alloc (.cells #[.pointer (some t)] 124)).alloc (.cells #[.pointer (some ⟨2, 124, none⟩), .pointer (some ⟨w.heap.size, 0, none⟩), .int .u64 150] 186)).alloc (.cells #[.pointer (some ⟨2, 124, none⟩), .pointer (some ⟨w.heap.size, 0, none⟩), .int .u64 150] 186)).alloc (.cells #[.pointer (some e)] 122)
set_option maxHeartbeats 4000000 in
theorem as_hit (e t : Addr) (old : Value) (w : World) (hg : w.cell? ⟨1, 0, none⟩ = some (.iface 239 (.agg #[.pointer (some ⟨2, 119, none⟩)]))) (ht0 : w.cell? t = some old) (hf0 : w.frozen? t = false) :
  Calls Tryz.prog 67 #[.iface 122 (.pointer (some e)), .iface 124 (.pointer (some t))] w fun ev w' => ev = .returned (.bool true) ∧ w' = (asW w e t).setCell t (.pointer (some e)) := by
 have h6 := @run_callFunc_extern Tryz.prog 151 _ (fun args => ReflectliteValue.unpack (args.getD 0 (.tuple #[]))) Tryz.func151 kr kr kr kr
 have h7 := @run_callFunc_extern Tryz.prog 152 _ (ReflectliteValue.methodAny (ReflectliteValue.valueError "reflectlite.Value.Type" 0) (fun t _ _ _ => ReflectliteType.toType t)) Tryz.func152 kr kr kr kr
 have h8 := @run_callFunc_extern Tryz.prog 153 _ (ReflectliteValue.method (ReflectliteValue.valueError "reflectlite.Value.IsNil" 0) ReflectliteValue.isNil) Tryz.func153 kr kr kr kr
 have h27 := @run_callFunc_extern Tryz.prog 277 _ (ReflectliteType.abiMethod fun t => do pure (.int .u8 (← Rtype.kind t))) Tryz.func277 kr kr kr kr
 have h37 := @run_callFunc_extern Tryz.prog 291 _ (ReflectliteType.method ReflectliteType.elem) Tryz.func291 kr kr kr kr
 have h38 := @run_callFunc_extern Tryz.prog 292 _ (ReflectliteType.relation "Implements" ReflectliteType.implements_) Tryz.func292 kr kr kr kr
 have h10 := @run_callFunc_extern Tryz.prog 155 _ ReflectliteType.typeOf Tryz.func155 kr kr kr kr
 have h35 := @run_callFunc_extern Tryz.prog 289 _ (ReflectliteType.relation "AssignableTo" ReflectliteType.assignableTo) Tryz.func289 kr kr kr kr
 have h11 := @run_callFunc_extern Tryz.prog 211 _ (ReflectliteValue.method (ReflectliteValue.valueError "reflectlite.Value.Elem" 0) ReflectliteValue.elem) Tryz.func211 kr kr kr kr
 have h12 := @run_callFunc_extern Tryz.prog 212 _ ReflectliteValue.set Tryz.func212 kr kr kr kr
 have tO := as_typeOf
 have mA := as_methodAssignableTo
 have a25 := as_assignable
 have v25 := as_valueE
 have f6 := as_valueOf
 have f7 := as_type
 have mK := as_methodKind
 have mE := as_methodElem
 have mI := as_methodImplements
 have k27 := as_kindP
 have k25 := as_kindE
 have e27 := as_elemT
 have i25 := as_implements
 have n8 := as_isNil ⟨w.heap.size, 0, none⟩ t ((w.alloc (.cells #[.pointer (some t)] 124)).alloc (.cells #[.pointer (some ⟨2, 124, none⟩), .pointer (some ⟨w.heap.size, 0, none⟩), .int .u64 150] 186)) (by simp)
 have hlt : 1 < w.heap.size := by
  rcases Nat.lt_or_ge 1 w.heap.size with h | h
  ·exact h
  ·simp [World.cell?, Array.getElem?_eq_none h] at hg
 have hg2 : ((w.alloc (.cells #[.pointer (some t)] 124)).alloc (.cells #[.pointer (some ⟨2, 124, none⟩), .pointer (some ⟨w.heap.size, 0, none⟩), .int .u64 150] 186)).cell? ⟨1, 0, none⟩ = some (.iface 239 (.agg #[.pointer (some ⟨2, 119, none⟩)])) := by
  rw [World.cell?_alloc_lt _ _ ⟨1, 0, none⟩ (by simp; omega), World.cell?_alloc_lt _ _ ⟨1, 0, none⟩ hlt]; exact hg
 have htl : t.block < w.heap.size := by
  rcases Nat.lt_or_ge t.block w.heap.size with h | h
  ·exact h
  ·simp [World.cell?, Array.getElem?_eq_none h] at ht0
 have el := as_elemV ⟨w.heap.size, 0, none⟩ t (((w.alloc (.cells #[.pointer (some t)] 124)).alloc (.cells #[.pointer (some ⟨2, 124, none⟩), .pointer (some ⟨w.heap.size, 0, none⟩), .int .u64 150] 186)).alloc (.cells #[.pointer (some ⟨2, 124, none⟩), .pointer (some ⟨w.heap.size, 0, none⟩), .int .u64 150] 186)) (by rw [World.cell?_alloc_lt _ _ ⟨w.heap.size, 0, none⟩ (by simp; omega)]; simp)
 have st := as_set t ⟨w.heap.size + 1 + 1 + 1, 0, none⟩ e old (asW w e t)
  (by rw [World.cell?_alloc_at _ _ _ _ (by simp)]; rfl)
  (by rw [World.cell?_alloc_lt _ _ t (by simp; omega), World.cell?_alloc_lt _ _ t (by simp; omega), World.cell?_alloc_lt _ _ t (by simp; omega), World.cell?_alloc_lt _ _ t htl]; exact ht0)
  (by rw [World.frozen?_alloc_old _ _ t (by simp; omega), World.frozen?_alloc_old _ _ t (by simp; omega), World.frozen?_alloc_old _ _ t (by simp; omega), World.frozen?_alloc_old _ _ t (Nat.ne_of_lt htl)]; exact hf0)
 go_enter Tryz.func67, Tryz.ntmps67
 go_wp2
 refine wp_loop_rounds 1 ?_
 rw [rounds_succ]
 go_wp2
 go_ret
 exact ⟨rfl, rfl⟩
end Go.Proofs.YtinmcdcmidlgpaaGreatDoor
