/- Walks of functions of the program, printed by a program of the prover. -/
import Derived.Test.YtinmcdcmidlgpaaGreatDoorTrF66
import Derived.Test.YtinmcdcmidlgpaaGreatDoorTrVL
import Derived.LaidEql
import Derived.Stop.Asserts
import Derived.RowKitTokens
import Derived.Test.YtinmcdcmidlgpaaGreatDoorTrF50
import Derived.Test.YtinmcdcmidlgpaaGreatDoorTrF27
namespace Go.Proofs.YtinmcdcmidlgpaaGreatDoor
open Go.ChangeShapes Go.WideShapes Go.ChangeAt Go.RowKit
set_option linter.unusedVariables false
set_option linter.unusedSimpArgs false
set_option maxHeartbeats 1000000
set_option maxRecDepth 100000
attribute [local irreducible] EvL Ev EvE Quiet Eff Pure RDk RDb RDo
theorem c_AskedOf1 (n : LogN) (a : Ask) (now : Int) (hT : logOkF n = true → askOkF a = true → timeOk now = true → a.seq > (findM n.seen a.client).seq → takesA n (entA n a now) = true) : Pure Tryz.prog 16 [many (logC n), many (askC a), one (iC now)] [many' (logR ((askedF n a now).1)), one' (acksR (askedF n a now).2)] := by
 refine pure_intro (N := 97) Tryz.func16 rfl rfl rfl rfl (fun H w => ?_)
 have cl := c_LogOk' n
 rw [logOk_same] at cl
 refine sq (rg (evl_e (e_box rfl rfl rfl rfl) (evl_e (e_box rfl rfl rfl rfl) (evl_e (e_alloc ttOk rfl rfl rfl rfl) (xs rfl rfl (nl (et (sq (sq (rg (xl ttOk rfl rfl (evl_call (nm := 14) (cf rfl) cl (rs_of rfl) rfl rfl rfl (xo (q_not rfl) rfl (nl (et (ev_cond_n rfl (fun h1 => ?_) (fun h1 => ?_)))))))))))))))))
 try have d1 := of_decide_eq_false h1
 refine sq (rg (xo (q_build ttOk rfl) rfl (xst ttOk rfl rfl (xs rfl rfl (nl (et (ev_ret (evr_then (ret_pureN ttOk rfl rfl ?_)))))))))
 rotate_left
 try have d1 := of_decide_eq_true h1
 obtain ⟨hk, hh, hb, he1, he2⟩ := log_all h1
 have hsm := log_small h1
 have hso := of_sok (log_seen h1).2.2
 refine ev_skip (et (sq (rg (xl ttOk rfl rfl (evl_call (nm := 18) (cf rfl) (c_copyLog n h1) (rs_of rfl) rfl rfl rfl (evl_e (e_alloc ttOk rfl rfl rfl rfl) (xst ttOk rfl rfl (nl (et (sq (sq (rg (xl ttOk rfl rfl (evl_call (nm := 20) (cf rfl) (c_AskOk' a) (rs_of rfl) rfl rfl rfl (xo (q_not rfl) rfl (xm rfl rfl (evl_partn rfl rfl (fun h2 => ?_) (fun h2 => ?_))))))))))))))))))
 try have d2 := of_decide_eq_false h2
 refine gn (nt h2) rfl rfl rfl (gn (nt h2) rfl rfl rfl (gn (nt h2) rfl rfl rfl (xo (q_pick_t rfl (nt h2) rfl) rfl (nl (et (ev_cond_kt rfl rfl (sq (rg (xl ttOk rfl rfl (xst ttOk rfl rfl (xs rfl rfl (nl (et (ev_ret (evr_then (ret_pureN ttOk rfl rfl ?_))))))))))))))))
 rotate_left
 try have d2 := of_decide_eq_true h2
 refine gm (nf h2) rfl rfl rfl rfl (evl_callg rfl rfl (nf h2) (nm := 24) (cf rfl) (c_TimeOk' now) (rs_of rfl) rfl rfl rfl (go (nf h2) rfl rfl (q_not rfl) rfl (xo (q_pick_f rfl (nf h2) rfl) rfl (nl (et (ev_cond_n rfl (fun h3 => ?_) (fun h3 => ?_)))))))
 try have d3 := of_decide_eq_false h3
 refine sq (rg (xl ttOk rfl rfl (xst ttOk rfl rfl (xs rfl rfl (nl (et (ev_ret (evr_then (ret_pureN ttOk rfl rfl ?_)))))))))
 rotate_left
 try have d3 := of_decide_eq_true h3
 refine ev_skip (et (sq (rg (xf ttOk rfl rfl (xl ttOk rfl rfl (xf ttOk rfl rfl (xl ttOk rfl rfl (evl_call (nm := 32) (cf rfl) (c_markOf n.seen a.client) (rs_of rfl) rfl rfl rfl (evl_e (e_alloc ttOk rfl rfl rfl rfl) (xst ttOk rfl rfl (nl (et (sq (ev_blk (sq (rg (xf ttOk rfl rfl (xl ttOk rfl rfl (xf ttOk rfl rfl (xl ttOk rfl rfl (xb ttOk rfl rfl (xs rfl rfl (nl (et (ev_cond rfl (fun h4 => ?_) (fun h4 => ?_))))))))))))))))))))))))))
 try have d4 := of_decide_eq_true h4
 have hfr : freshLogF n a now = withE n (entA n a now) := by unfold freshLogF; rw [hT h1 h2 h3 ‹_›]; rfl
 refine sq (rg (xl ttOk rfl rfl (xl ttOk rfl rfl (xm rfl rfl (evl_takec (nm := 43) (cf rfl) rfl rfl (c_recorded n a now h1 (hT h1 h2 h3 ‹_›)) rfl (rs_of rfl) rfl rfl rfl (xm rfl rfl (xo (q_ext rfl) rfl (xo (q_ext rfl) rfl (evl_e (e_alloc ttOk rfl rfl rfl rfl) (xst ttOk rfl rfl (xs rfl rfl (nl (et (sq (rg (evl_e (e_alloc ttOk rfl rfl rfl rfl) (nl (et (sq (sq (rg (xm rfl rfl (xo (q_mkif kr rfl) rfl (evl_asnil (cf rfl) as_nil rfl rfl (xm rfl rfl (gn rfl rfl rfl rfl (gn rfl rfl rfl rfl (gn rfl rfl rfl rfl (gn rfl rfl rfl rfl (xo (q_pick_f rfl rfl rfl) rfl (nl (et (ev_cond_kf rfl rfl (ev_skip (et (sq (rg (xl ttOk rfl rfl (xst ttOk rfl rfl (xs rfl rfl (nl (et (ev_ret (evr_blk (evr_then (ret_pureN ttOk rfl rfl ?_))))))))))))))))))))))))))))))))))))))))))))))
 rotate_left
 try have d4 := of_decide_eq_false h4
 refine sq (rg (xf ttOk rfl rfl (xl ttOk rfl rfl (xf ttOk rfl rfl (xl ttOk rfl rfl (xb ttOk rfl rfl (xm rfl rfl (evl_part rfl rfl (fun h5 => ?_) (fun h5 => ?_)))))))))
 try have d5 := of_decide_eq_true h5
 refine go h5 rfl rfl (q_fieldAddr ttOk rfl) rfl (go h5 rfl rfl (q_load ttOk rfl) rfl (go h5 rfl rfl (q_fieldAddr ttOk rfl) rfl (go h5 rfl rfl (q_load ttOk rfl) rfl (go h5 rfl rfl (q_bin ttOk rfl) rfl (xo (q_pick_t rfl h5 rfl) rfl (xs rfl rfl (nl (et (ev_cond rfl (fun h6 => ?_) (fun h6 => ?_))))))))))
 try have d6 := of_decide_eq_true h6
 refine sq (rg (xl ttOk rfl rfl (xst ttOk rfl rfl (xs rfl rfl (nl (et (ev_ret (evr_blk (evr_then (ret_pureN ttOk rfl rfl ?_))))))))))
 rotate_left
 try have d6 := of_decide_eq_false h6
 refine sq (rg (xf ttOk rfl rfl (xl ttOk rfl rfl (xf ttOk rfl rfl (xl ttOk rfl rfl (xb ttOk rfl rfl (xs rfl rfl (nl (et (ev_cond rfl (fun h7 => ?_) (fun h7 => ?_)))))))))))
 try have d7 := of_decide_eq_true h7
 refine sq (ev_frz (cs := logC n) 3 rfl rfl rfl (fun HF16_0 hHF16_0 => ?_))
 refine ev_frz (cs := askC a) 4 rfl rfl rfl (fun HF16_1 hHF16_1 => ?_)
 refine ev_frz (cs := markC (findM n.seen a.client)) 9 rfl rfl rfl (fun HF16_2 hHF16_2 => ?_)
 refine ev_drawh mo (rdh_take 1 rfl kr trivial (QuietW.h (qw_fieldAddr ttOk rfl)) rfl (rdh_take 2 rfl kr trivial (q_loadH ttOk rfl rfl) rfl (rdh_take 3 rfl kr trivial (QuietW.h (qw_fieldAddr ttOk rfl)) rfl (rdh_take 4 rfl kr trivial (q_loadH ttOk rfl rfl) rfl (rdh_take 5 rfl kr trivial (QuietW.h (qw_fieldAddr ttOk rfl)) rfl (rdh_take 6 rfl kr trivial (q_loadH ttOk rfl rfl) rfl (rdh_take 7 rfl kr trivial (QuietW.h (qw_fieldAddr ttOk rfl)) rfl (rdh_take 8 rfl kr trivial (q_loadH ttOk rfl rfl) rfl (rdh_2 0 9 kr ?_ ?_)))))))))
 refine rdho_q rfl trivial (q_load ttOk rfl) rfl (rdh_2 9 11 kr ?_ ?_)
 refine rdho_q rfl trivial (q_build ttOk rfl) rfl (rdh_2 10 11 kr ?_ ?_)
 refine rdho_eff rfl trivial (e_lit ttOk rfl rfl rfl) (rdh_1 11 kr (rdho_eff rfl trivial (e_store ttOk rfl) (rdh_take 12 rfl kr trivial (QuietW.h (qw_assign rfl)) rfl (rdh_endq kr (et (ev_ret (evr_blk (evr_then (retH rfl (ret_pureN ttOk rfl rfl ?_))))))))))
 rotate_left
 refine rdho_eff rfl trivial (e_store ttOk rfl) (rdh_1 10 kr (rdho_eff rfl trivial (e_lit ttOk rfl rfl rfl) (rdh_take 12 rfl kr trivial (QuietW.h (qw_assign rfl)) rfl (rdh_endq kr (et (ev_ret (evr_blk (evr_then (retH rfl (ret_pureN ttOk rfl rfl ?_))))))))))
 rotate_left
 refine rdho_eff rfl trivial (e_store ttOk rfl) (rdh_1 9 kr (rdho_q rfl trivial (q_build ttOk rfl) rfl (rdh_1 10 kr (rdho_eff rfl trivial (e_lit ttOk rfl rfl rfl) (rdh_take 12 rfl kr trivial (QuietW.h (qw_assign rfl)) rfl (rdh_endq kr (et (ev_ret (evr_blk (evr_then (retH rfl (ret_pureN ttOk rfl rfl ?_))))))))))))
 rotate_left
 refine rdho_q rfl trivial (q_build ttOk rfl) rfl (rdh_2 0 10 kr ?_ ?_)
 refine rdho_q rfl trivial (q_load ttOk rfl) rfl (rdh_2 10 11 kr ?_ ?_)
 refine rdho_eff rfl trivial (e_lit ttOk rfl rfl rfl) (rdh_1 11 kr (rdho_eff rfl trivial (e_store ttOk rfl) (rdh_take 12 rfl kr trivial (QuietW.h (qw_assign rfl)) rfl (rdh_endq kr (et (ev_ret (evr_blk (evr_then (retH rfl (ret_pureN ttOk rfl rfl ?_))))))))))
 rotate_left
 refine rdho_eff rfl trivial (e_store ttOk rfl) (rdh_1 10 kr (rdho_eff rfl trivial (e_lit ttOk rfl rfl rfl) (rdh_take 12 rfl kr trivial (QuietW.h (qw_assign rfl)) rfl (rdh_endq kr (et (ev_ret (evr_blk (evr_then (retH rfl (ret_pureN ttOk rfl rfl ?_))))))))))
 rotate_left
 refine rdho_eff rfl trivial (e_lit ttOk rfl rfl rfl) (rdh_1 0 kr (rdho_q rfl trivial (q_load ttOk rfl) rfl (rdh_1 11 kr (rdho_eff rfl trivial (e_store ttOk rfl) (rdh_take 12 rfl kr trivial (QuietW.h (qw_assign rfl)) rfl (rdh_endq kr (et (ev_ret (evr_blk (evr_then (retH rfl (ret_pureN ttOk rfl rfl ?_))))))))))))
 rotate_left
 try have d7 := of_decide_eq_false h7
 refine ev_skip (eb (et (sq (ev_frz (cs := logC n) 3 rfl rfl rfl (fun HF17_0 hHF17_0 => ?_)))))
 refine ev_frz (cs := askC a) 4 rfl rfl rfl (fun HF17_1 hHF17_1 => ?_)
 refine ev_frz (cs := markC (findM n.seen a.client)) 9 rfl rfl rfl (fun HF17_2 hHF17_2 => ?_)
 refine ev_drawh mo (rdh_take 1 rfl kr trivial (QuietW.h (qw_fieldAddr ttOk rfl)) rfl (rdh_take 2 rfl kr trivial (q_loadH ttOk rfl rfl) rfl (rdh_take 3 rfl kr trivial (QuietW.h (qw_fieldAddr ttOk rfl)) rfl (rdh_take 4 rfl kr trivial (q_loadH ttOk rfl rfl) rfl (rdh_take 5 rfl kr trivial (QuietW.h (qw_fieldAddr ttOk rfl)) rfl (rdh_take 6 rfl kr trivial (q_loadH ttOk rfl rfl) rfl (rdh_2 0 7 kr ?_ ?_)))))))
 refine rdho_q rfl trivial (q_load ttOk rfl) rfl (rdh_2 7 9 kr ?_ ?_)
 refine rdho_q rfl trivial (q_build ttOk rfl) rfl (rdh_2 8 9 kr ?_ ?_)
 refine rdho_eff rfl trivial (e_lit ttOk rfl rfl rfl) (rdh_1 9 kr (rdho_eff rfl trivial (e_store ttOk rfl) (rdh_take 10 rfl kr trivial (QuietW.h (qw_assign rfl)) rfl (rdh_endq kr (et (ev_ret (retH rfl (ret_pureN ttOk rfl rfl ?_))))))))
 rotate_left
 refine rdho_eff rfl trivial (e_store ttOk rfl) (rdh_1 8 kr (rdho_eff rfl trivial (e_lit ttOk rfl rfl rfl) (rdh_take 10 rfl kr trivial (QuietW.h (qw_assign rfl)) rfl (rdh_endq kr (et (ev_ret (retH rfl (ret_pureN ttOk rfl rfl ?_))))))))
 rotate_left
 refine rdho_eff rfl trivial (e_store ttOk rfl) (rdh_1 7 kr (rdho_q rfl trivial (q_build ttOk rfl) rfl (rdh_1 8 kr (rdho_eff rfl trivial (e_lit ttOk rfl rfl rfl) (rdh_take 10 rfl kr trivial (QuietW.h (qw_assign rfl)) rfl (rdh_endq kr (et (ev_ret (retH rfl (ret_pureN ttOk rfl rfl ?_))))))))))
 rotate_left
 refine rdho_q rfl trivial (q_build ttOk rfl) rfl (rdh_2 0 8 kr ?_ ?_)
 refine rdho_q rfl trivial (q_load ttOk rfl) rfl (rdh_2 8 9 kr ?_ ?_)
 refine rdho_eff rfl trivial (e_lit ttOk rfl rfl rfl) (rdh_1 9 kr (rdho_eff rfl trivial (e_store ttOk rfl) (rdh_take 10 rfl kr trivial (QuietW.h (qw_assign rfl)) rfl (rdh_endq kr (et (ev_ret (retH rfl (ret_pureN ttOk rfl rfl ?_))))))))
 rotate_left
 refine rdho_eff rfl trivial (e_store ttOk rfl) (rdh_1 8 kr (rdho_eff rfl trivial (e_lit ttOk rfl rfl rfl) (rdh_take 10 rfl kr trivial (QuietW.h (qw_assign rfl)) rfl (rdh_endq kr (et (ev_ret (retH rfl (ret_pureN ttOk rfl rfl ?_))))))))
 rotate_left
 refine rdho_eff rfl trivial (e_lit ttOk rfl rfl rfl) (rdh_1 0 kr (rdho_q rfl trivial (q_load ttOk rfl) rfl (rdh_1 9 kr (rdho_eff rfl trivial (e_store ttOk rfl) (rdh_take 10 rfl kr trivial (QuietW.h (qw_assign rfl)) rfl (rdh_endq kr (et (ev_ret (retH rfl (ret_pureN ttOk rfl rfl ?_))))))))))
 rotate_left
 try have d5 := of_decide_eq_false h5
 refine gn h5 rfl rfl rfl (gn h5 rfl rfl rfl (gn h5 rfl rfl rfl (gn h5 rfl rfl rfl (gn h5 rfl rfl rfl (xo (q_pick_f rfl h5 rfl) rfl (xs rfl rfl (nl (et (ev_cond_kf rfl rfl (sq (rg (xf ttOk rfl rfl (xl ttOk rfl rfl (xf ttOk rfl rfl (xl ttOk rfl rfl (xb ttOk rfl rfl (xs rfl rfl (nl (et (ev_cond rfl (fun h8 => ?_) (fun h8 => ?_)))))))))))))))))))))
 exact absurd (of_decide_eq_true h8) d5
 try have d8 := of_decide_eq_false h8
 refine ev_skip (eb (et (sq (ev_frz (cs := logC n) 3 rfl rfl rfl (fun HF17_0 hHF17_0 => ?_)))))
 refine ev_frz (cs := askC a) 4 rfl rfl rfl (fun HF17_1 hHF17_1 => ?_)
 refine ev_frz (cs := markC (findM n.seen a.client)) 9 rfl rfl rfl (fun HF17_2 hHF17_2 => ?_)
 refine ev_drawh mo (rdh_take 1 rfl kr trivial (QuietW.h (qw_fieldAddr ttOk rfl)) rfl (rdh_take 2 rfl kr trivial (q_loadH ttOk rfl rfl) rfl (rdh_take 3 rfl kr trivial (QuietW.h (qw_fieldAddr ttOk rfl)) rfl (rdh_take 4 rfl kr trivial (q_loadH ttOk rfl rfl) rfl (rdh_take 5 rfl kr trivial (QuietW.h (qw_fieldAddr ttOk rfl)) rfl (rdh_take 6 rfl kr trivial (q_loadH ttOk rfl rfl) rfl (rdh_2 0 7 kr ?_ ?_)))))))
 refine rdho_q rfl trivial (q_load ttOk rfl) rfl (rdh_2 7 9 kr ?_ ?_)
 refine rdho_q rfl trivial (q_build ttOk rfl) rfl (rdh_2 8 9 kr ?_ ?_)
 refine rdho_eff rfl trivial (e_lit ttOk rfl rfl rfl) (rdh_1 9 kr (rdho_eff rfl trivial (e_store ttOk rfl) (rdh_take 10 rfl kr trivial (QuietW.h (qw_assign rfl)) rfl (rdh_endq kr (et (ev_ret (retH rfl (ret_pureN ttOk rfl rfl ?_))))))))
 rotate_left
 refine rdho_eff rfl trivial (e_store ttOk rfl) (rdh_1 8 kr (rdho_eff rfl trivial (e_lit ttOk rfl rfl rfl) (rdh_take 10 rfl kr trivial (QuietW.h (qw_assign rfl)) rfl (rdh_endq kr (et (ev_ret (retH rfl (ret_pureN ttOk rfl rfl ?_))))))))
 rotate_left
 refine rdho_eff rfl trivial (e_store ttOk rfl) (rdh_1 7 kr (rdho_q rfl trivial (q_build ttOk rfl) rfl (rdh_1 8 kr (rdho_eff rfl trivial (e_lit ttOk rfl rfl rfl) (rdh_take 10 rfl kr trivial (QuietW.h (qw_assign rfl)) rfl (rdh_endq kr (et (ev_ret (retH rfl (ret_pureN ttOk rfl rfl ?_))))))))))
 rotate_left
 refine rdho_q rfl trivial (q_build ttOk rfl) rfl (rdh_2 0 8 kr ?_ ?_)
 refine rdho_q rfl trivial (q_load ttOk rfl) rfl (rdh_2 8 9 kr ?_ ?_)
 refine rdho_eff rfl trivial (e_lit ttOk rfl rfl rfl) (rdh_1 9 kr (rdho_eff rfl trivial (e_store ttOk rfl) (rdh_take 10 rfl kr trivial (QuietW.h (qw_assign rfl)) rfl (rdh_endq kr (et (ev_ret (retH rfl (ret_pureN ttOk rfl rfl ?_))))))))
 rotate_left
 refine rdho_eff rfl trivial (e_store ttOk rfl) (rdh_1 8 kr (rdho_eff rfl trivial (e_lit ttOk rfl rfl rfl) (rdh_take 10 rfl kr trivial (QuietW.h (qw_assign rfl)) rfl (rdh_endq kr (et (ev_ret (retH rfl (ret_pureN ttOk rfl rfl ?_))))))))
 rotate_left
 refine rdho_eff rfl trivial (e_lit ttOk rfl rfl rfl) (rdh_1 0 kr (rdho_q rfl trivial (q_load ttOk rfl) rfl (rdh_1 9 kr (rdho_eff rfl trivial (e_store ttOk rfl) (rdh_take 10 rfl kr trivial (QuietW.h (qw_assign rfl)) rfl (rdh_endq kr (et (ev_ret (retH rfl (ret_pureN ttOk rfl rfl ?_))))))))))
 rotate_left
 all_goals
  first
  | (rw [ak_no ‹_›]; simp [RpLe, L2, RcLe, zeroL, zeroD, zeroT, noHead]; done)
  | (rw [ak_bad1 ‹_› ‹_›]; simp [RpLe, L2, RcLe]; done)
  | (rw [ak_bad2 ‹_› ‹_›]; simp [RpLe, L2, RcLe]; done)
  | (rw [ak_fresh ‹_› ‹_› ‹_› ‹_›]; simp [RpLe, L2, RcLe]; done)
  | (rw [ak_fresh ‹_› ‹_› ‹_› ‹_›, hfr]; simp [RpLe, L2, RcLe]; done)
  | (rw [ak_old ‹_› ‹_› ‹_› ‹_›]; simp [RpLe, L2, RcLe]; done)
  | (rw [ak_old ‹_› ‹_› ‹_› (ak_lt ‹_› ‹_›)]; simp [RpLe, L2, RcLe]; done)
  | (rw [ak_wait ‹_› ‹_› ‹_› (ak_le ‹_› ‹_›) ‹_›]; simp [RpLe, L2, RcLe]; done)
  | (rw [ak_wait ‹_› ‹_› ‹_› ‹_› ‹_›]; simp [RpLe, L2, RcLe]; done)
  | (rw [ak_told ‹_› ‹_› ‹_› (ak_le ‹_› ‹_›) ‹_›]; simp [RpLe, L2, RcLe]; done)
  | (have hq : a.seq = (findM n.seen a.client).seq := by assumption
     rw [ak_told ‹_› ‹_› ‹_› hq ‹_›, hq]; simp [RpLe, L2, RcLe]; done)
theorem Lg.ask1 {n : LogN} {k : Nat} (h : Lg k n) {a : Ask} {now : Int} (ha : askOkF a = true) (hn : 0 ≤ now ∧ now < 1000) (hk : k < 19) : logOkF n = true → askOkF a = true → timeOk now = true → a.seq > (findM n.seen a.client).seq → takesA n (entA n a now) = true :=
 fun _ _ h2 _ => h.takes ha h2 om (by have := h.len; have := h.last; omega)
theorem time_small {now : Int} (hn : 0 ≤ now ∧ now < 1000) : timeOk now = true := inB_iff.2 ⟨by omega, by omega⟩
theorem Lg.bd {n : LogN} {k : Nat} (h : Lg k n) : 0 ≤ n.head.base ∧ n.head.base ≤ 2000 := (head_nums h.j.parts.2.1).2.1
def mostL (l : List Int) : Int := l.foldl max 0
theorem mostL_add (l : List Int) (x : Int) : mostL (l ++ [x]) = max (mostL l) x := by simp [mostL, List.foldl_append]
theorem mostL_step {l : List Int} {k : Nat} (hk : k < l.length) : mostL (l.take (k + 1)) = max (mostL (l.take k)) l[k] := by
 rw [List.take_succ_eq_append_getElem hk, mostL_add]
structure Tk (k : Nat) (cs : List Int) (n : LogN) : Prop where
 lg : Lg k n
 base : n.book.base = 0
 more : n.more = false
 len : n.book.entries.length = k
 cl : cs.length = k
 tm : timeB n.book = mostL cs
 times : ∀ i (h : i < n.book.entries.length), n.book.entries[i].time = mostL (cs.take (i + 1))
theorem newTk : Tk 0 [] newLogF := ⟨newLg, rfl, rfl, rfl, rfl, by decide, fun i h => absurd h (by simp [newLogF])⟩
section
variable {n : LogN} {k : Nat} {cs : List Int}
theorem Tk.ask (h : Tk k cs n) {a : Ask} {now : Int} (h1 : askerOk a.client = true) (h2 : opOk a.kind a.a a.b a.c a.d = true) (h3 : a.seq = (findM n.seen a.client).seq + 1) (hn : 0 ≤ now ∧ now < 1000) (hk : k < 20) : Tk (k + 1) (cs ++ [now]) (askedF n a now).1 := by
 obtain ⟨ha, hq, hs⟩ := h.lg.fresh_ok h1 h2 h3 om
 have ht := time_small hn
 have hl := h.len
 have htk := h.lg.takes ha ht om om
 have hw := h.lg.withE ha ht om om hs hq
 rw [ak_fresh h.lg.ok ha ht hs]
 show Tk (k + 1) (cs ++ [now]) (freshLogF n a now)
 unfold freshLogF
 rw [htk]
 have hcl := h.cl
 have he : (withE n (entA n a now)).book.entries = n.book.entries ++ [entA n a now] := rfl
 have hm : (entA n a now).time = mostL (cs ++ [now]) := by
  rw [mostL_add, ← h.tm]
  show max now (timeB n.book) = _
  omega
 refine ⟨hw, h.base, h.more, by simp [he, hl], by simp [hcl], ?_, fun i hi => ?_⟩
 ·rw [timeB_last (m := k) (by simp [he, hl])]
  rw [← hm]
  simp [he, hl]
 ·have hi : i < (n.book.entries ++ [entA n a now]).length := hi
  show (n.book.entries ++ [entA n a now])[i].time = _
  rw [List.length_append, List.length_singleton] at hi
  rcases Nat.lt_or_ge i k with h9 | h9
  ·rw [List.getElem_append_left om, h.times i om, List.take_append_of_le_length om]
  ·obtain rfl : i = k := by omega
   rw [List.getElem_append_right om, List.take_of_length_le (by simp [hcl])]
   simp only [hl, Nat.sub_self, List.getElem_singleton]
   exact hm
theorem Tk.held (h : Tk k cs n) : heldF (syncedF n).1 = n.book.entries := by
 have ho := h.lg.sync.ok
 rw [held_yes ho, sy_less h.lg.ok h.more]
 show n.book.entries.take (lastB n.book - n.book.base).toNat = _
 rw [List.take_of_length_le (by unfold lastB; omega)]
end
theorem L_TimesRise (l : List Int) (hl : ∀ x ∈ l, 0 ≤ x ∧ x ≤ 255) : Pure Tryz.prog 4 [one (bytes l)] (bR true) := by
 refine pure_intro (N := 74) Tryz.func4 rfl rfl rfl rfl (fun H w => ?_)
 refine sq (rg (xs rfl rfl (nl (et (sq (sq (rg (xm rfl rfl (evl_call (nm := 12) (cf rfl) (c_big _) (rs_of rfl) rfl rfl rfl (nl (et (ev_cond rfl (fun h1 => ?_) (fun h1 => ?_)))))))))))))
 ·try have d1 := of_decide_eq_true h1
  refine sq (rg (xs rfl rfl (nl (et (ev_ret (evr_then (ret_pure' ttOk rfl rfl ?_)))))))
  rfl
 ·try have d1 := of_decide_eq_false h1
  have hn0 : ¬ (l.length : Int) > 4096 := of_decide_eq_false h1
  refine ev_skip (et (sq (rg (xm rfl rfl (evl_mkroll (cf rfl) (c_roll 926) rfl rfl hl om rfl rfl (fun g v0 δ0 hg hsrc => ?_))))))
  refine xs rfl rfl (nl (et (sq (rg (evl_call (nm := 15) (cf rfl) c_NewLog' (rs_of rfl) rfl rfl rfl (evl_e (e_alloc ttOk rfl rfl rfl rfl) (xst ttOk rfl rfl (nl (et (sq (rg (evl_e (e_lit ttOk rfl rfl rfl) (xs rfl rfl (nl (et (sq (sq (rg (xm rfl rfl (evl_roll (nm := 18) (cf rfl) (c_below _ om) rfl rfl hsrc (rs_of rfl) (fun _ => rfl) (fun x2 δ2 r2 => ?_)))))))))))))))))))))
  refine rlk rfl rfl rfl ?_
  obtain ⟨r2a, r2b⟩ := r2
  refine xa rfl rfl rfl om rfl (xs rfl rfl (nl (et (ev_blk (ev_loop (fun i : Nat × Int × LogN × List Int × DS l.length => (⟨[(14, pbV 14 0), (3, pbV 14 0), (4, pbV 4 0), (5, .p false [.rt 110]), (6, iV i.2.1)], [(4, 55, [.rt 101, .rt 102, .rt 103, .rt 104, .c (iC i.2.2.1.head.num), .c (iC i.2.2.1.head.base), .c (iC i.2.2.1.head.time), .rt 105, .c (iC i.2.2.1.next.num), .c (iC i.2.2.1.next.base), .c (iC i.2.2.1.next.time), .rt 106, .c (bC i.2.2.1.more), .c (iC i.2.2.1.book.base), .c (iC i.2.2.1.book.time), .rt 107, .rt 108, .c (iC i.2.2.1.durable), .rt 109]), (14, 135, diceA v0 i.2.2.2.2)], [(110, 2, 1, (i.2.2.2.1.map fun x => [iC x])), (101, 74, 1, (i.2.2.1.two.a.kept.map fun r => [ints r])), (102, 212, 2, (i.2.2.1.two.a.wait.map fun x => [iC x.1, ints x.2])), (103, 74, 1, (i.2.2.1.two.b.kept.map fun r => [ints r])), (104, 212, 2, (i.2.2.1.two.b.wait.map fun x => [iC x.1, ints x.2])), (105, 94, 3, (i.2.2.1.head.seen.map markC)), (106, 94, 3, (i.2.2.1.next.seen.map markC)), (107, 80, 9, (i.2.2.1.book.entries.map entryC)), (108, 94, 3, (i.2.2.1.seen.map markC)), (109, 83, 4, (i.2.2.1.owe.map ackC))], []⟩ : St)) (fun i => i.2.1 = 1 + x2 - i.1 ∧ i.1 ≤ 1 + x2 ∧ Tk i.1 i.2.2.2.1 i.2.2.1) (fun i => (1 + x2).toNat - i.1) (0, 1 + x2, newLogF, [], δ2) [(110, 16), (101, 15), (102, 1015), (103, 2015), (104, 3015), (105, 4015), (106, 5015), (107, 6015), (108, 7015), (109, 8015)] (⟨by simp, by omega, newTk⟩) ⟨trf, trf, ⟨⟨_, rfl, by rfl⟩, ⟨_, rfl, by rfl⟩, ⟨_, rfl, by rfl⟩, ⟨_, rfl, by rfl⟩, ⟨_, rfl, by rfl⟩, ⟨_, rfl, by rfl⟩, ⟨_, rfl, by rfl⟩, ⟨_, rfl, by rfl⟩, ⟨_, rfl, by rfl⟩, ⟨_, rfl, by rfl⟩, trivial⟩, tre, rfl⟩ ?_)))))
  intro i hp
  obtain ⟨k, z, lg, cs, δ⟩ := i
  have hp : z = 1 + x2 - k ∧ k ≤ 1 + x2 ∧ Tk k cs lg := hp
  obtain ⟨p0, p1, p2⟩ := hp
  show Ev _ _ _ _ (⟨[(14, pbV 14 0), (3, pbV 14 0), (4, pbV 4 0), (5, .p false [.rt 110]), (6, iV z)], [(4, 55, [.rt 101, .rt 102, .rt 103, .rt 104, .c (iC lg.head.num), .c (iC lg.head.base), .c (iC lg.head.time), .rt 105, .c (iC lg.next.num), .c (iC lg.next.base), .c (iC lg.next.time), .rt 106, .c (bC lg.more), .c (iC lg.book.base), .c (iC lg.book.time), .rt 107, .rt 108, .c (iC lg.durable), .rt 109]), (14, 135, diceA v0 δ)], [(110, 2, 1, (cs.map fun x => [iC x])), (101, 74, 1, (lg.two.a.kept.map fun r => [ints r])), (102, 212, 2, (lg.two.a.wait.map fun x => [iC x.1, ints x.2])), (103, 74, 1, (lg.two.b.kept.map fun r => [ints r])), (104, 212, 2, (lg.two.b.wait.map fun x => [iC x.1, ints x.2])), (105, 94, 3, (lg.head.seen.map markC)), (106, 94, 3, (lg.next.seen.map markC)), (107, 80, 9, (lg.book.entries.map entryC)), (108, 94, 3, (lg.seen.map markC)), (109, 83, 4, (lg.owe.map ackC))], []⟩ : St)
  have hbd := p2.lg.bd
  have hcl := p2.cl
  refine sq (sq (rg (xm rfl rfl (xb ttOk rfl rfl (nl (et (ev_cond rfl (fun h3 => ?_) (fun h3 => ?_))))))))
  ·try have d3 := of_decide_eq_true h3
   refine ev_skip (et (sq (ev_blk (sq (rg (xm rfl rfl (evl_roll (nm := 25) (cf rfl) (c_below _ om) rfl rfl hsrc (rs_of rfl) (fun _ => rfl) (fun x4 δ4 r4 => ?_))))))))
   refine rlk rfl rfl rfl ?_
   obtain ⟨r4a, r4b⟩ := r4
   refine xs rfl rfl (nl (et (sq (rg (xm rfl rfl (xm rfl rfl (evl_e (e_lit ttOk rfl rfl rfl) (evl_e (e_app ttOk rfl rfl rfl rfl rfl rfl rfl (by simp; omega) rfl rfl) (xs rfl rfl (nl (et (ev_drawd [9] g mo (rdd_take 14 14 0 rfl kr trivial rfl rfl rfl rfl (q_load ttOk rfl) rfl rfl (rdd_pure 1 rfl kr trivial (qw_move rfl) rfl (rdd_take 14 14 2 rfl kr trivial rfl rfl rfl rfl (q_load ttOk rfl) rfl rfl (rdd_pure 4 rfl kr trivial (qw_move rfl) rfl (rdd_1 3 kr (rddo_roll (nm := 34) 14 rfl trivial rfl rfl (cf rfl) (c_w9Fresh lg p2.lg.seenOk) rfl rfl hsrc (rs_of rfl) (fun _ => rfl) (fun aa δ5 r5 => ?_)))))))))))))))))))
   refine rdk rfl rfl rfl ?_
   have hao := r5
   have haf := p2.lg.fresh_ok r5.1 r5.2.1 r5.2.2 om
   refine rdd_1 5 kr (rddo_call (nm := 36) rfl trivial (cf rfl) (c_AskedOf1 lg _ _ (p2.lg.ask1 haf.1 ⟨by omega, by omega⟩ om)) (rs_of rfl) rfl rfl rfl (rdd_pure 6 rfl kr trivial (qw_move rfl) rfl (rdd_pure 7 rfl kr trivial (qw_ext rfl) rfl (rdd_pure 8 rfl kr trivial (qw_ext rfl) rfl (rdd_1 9 kr (rddo_brk rfl kr trivial (e_store ttOk rfl) (rdd_endq kr (eb (et (rg (xm rfl rfl (xa rfl rfl rfl om rfl (xs rfl rfl (nl (eve_round (k + 1, z - 1, (askedF lg aa x4).1, cs ++ [x4], δ5) [(110, 29), (101, 36), (102, 1036), (103, 2036), (104, 3036), (105, 4036), (106, 5036), (107, 6036), (108, 7036), (109, 8036)] ?hp ⟨trf, trf, ⟨⟨_, rfl, by simp⟩, ⟨_, rfl, rfl⟩, ⟨_, rfl, rfl⟩, ⟨_, rfl, rfl⟩, ⟨_, rfl, rfl⟩, ⟨_, rfl, rfl⟩, ⟨_, rfl, rfl⟩, ⟨_, rfl, rfl⟩, ⟨_, rfl, rfl⟩, ⟨_, rfl, rfl⟩, trivial⟩, tre, rfl⟩)))))))))))))))
   case hp => exact ⟨⟨by dsimp only; omega, by omega, p2.ask hao.1 hao.2.1 hao.2.2 ⟨by omega, by omega⟩ om⟩, by omega⟩
  ·try have d3 := of_decide_eq_false h3
   refine ev_exit (evx_then (evx_then (evx_hit (et (sq ?_)))))
   have cH := c_HeldIn' (syncedF lg).1
   rw [p2.held] at cH
   refine rg (xl ttOk rfl rfl (evl_call (nm := 41) (cf rfl) (c_SyncedLog' lg) (rs_of rfl) rfl rfl rfl (xm rfl rfl (xo (q_ext rfl) rfl (xo (q_ext rfl) rfl (xst ttOk rfl rfl (nl (et (sq (rg (xl ttOk rfl rfl (evl_call (nm := 45) (cf rfl) cH (rs_of rfl) rfl rfl rfl (xs rfl rfl (nl (et (sq (rg (xs rfl rfl (nl (et (sq (sq (rg (xm rfl rfl (xo (q_len_rtm ttOk rfl rfl rfl) rfl (xm rfl rfl (xo (q_len_rtm ttOk rfl rfl rfl) rfl (xb ttOk rfl rfl (nl (et (ev_cond rfl (fun h6 => ?_) (fun h6 => ?_))))))))))))))))))))))))))))))))
   ·exact absurd (of_decide_eq_true h6) (by have := p2.len; have := p2.cl; omega)
   ·try have d6 := of_decide_eq_false h6
    refine ev_skip (et (sq (sq (rg (xs rfl rfl (nl (et (ev_blk (ev_loop (fun i : Nat × Int => (⟨[(8, .p false [.rt 45]), (5, .p false [.rt 110]), (9, iV i.2), (10, iV i.1)], [], [(45, 80, 9, (lg.book.entries.map entryC)), (110, 2, 1, (cs.map fun x => [iC x]))], []⟩ : St)) (fun i => i.1 ≤ cs.length ∧ i.2 = mostL (cs.take i.1)) (fun i => cs.length - i.1) (0, 0) [] (⟨by simp, by simp [mostL]⟩) ⟨trf, trf, ⟨⟨_, rfl, by rfl⟩, ⟨_, rfl, by rfl⟩, trivial⟩, tre, rfl⟩ ?_)))))))))
    intro i hp
    obtain ⟨k, mo⟩ := i
    have hp : k ≤ cs.length ∧ mo = mostL (cs.take k) := hp
    obtain ⟨q0, q1⟩ := hp
    show Ev _ _ _ _ (⟨[(8, .p false [.rt 45]), (5, .p false [.rt 110]), (9, iV mo), (10, iV k)], [], [(45, 80, 9, (lg.book.entries.map entryC)), (110, 2, 1, (cs.map fun x => [iC x]))], []⟩ : St)
    have hcl := p2.cl
    have hln := p2.len
    refine sq (sq (rg (xm rfl rfl (xm rfl rfl (xo (q_len_rtm ttOk rfl rfl rfl) rfl (xb ttOk rfl rfl (nl (et (ev_cond rfl (fun h7 => ?_) (fun h7 => ?_))))))))))
    ·try have d7 := of_decide_eq_true h7
     refine ev_skip (et (sq (ev_blk (sq (sq (rg (xm rfl rfl (xm rfl rfl (xo (q_ix_rt (m := k) ttOk rfl rfl rfl rfl rfl rfl (by simp; omega)) rfl (xo (q_load_pr ttOk rfl rfl rfl rfl (get_map om) rfl rfl) rfl (xm rfl rfl (xb ttOk rfl rfl (nl (et (ev_cond rfl (fun h8 => ?_) (fun h8 => ?_))))))))))))))))
     ·try have d8 := of_decide_eq_true h8
      refine rg (xm rfl rfl (xm rfl rfl (xo (q_ix_rt (m := k) ttOk rfl rfl rfl rfl rfl rfl (by simp; omega)) rfl (xo (q_load_pr ttOk rfl rfl rfl rfl (get_map om) rfl rfl) rfl (xs rfl rfl (nl (et (sq (rg (xm rfl rfl (xm rfl rfl (xo (q_ix_rt (m := k) ttOk rfl rfl rfl rfl rfl rfl (by simp; omega)) rfl (xf ttOk rfl rfl (xo (q_load_pr ttOk rfl rfl rfl rfl (get_map om) rfl rfl) rfl (xm rfl rfl (xb ttOk rfl rfl (nl (et (ev_cond rfl (fun h9 => ?_) (fun h9 => ?_))))))))))))))))))))
      ·exact absurd (of_decide_eq_true h9) (by have := p2.times k om; rw [mostL_step om] at this; omega)
      ·try have d9 := of_decide_eq_false h9
       refine ev_skip (eb (et (rg (xm rfl rfl (xa rfl rfl rfl om rfl (xs rfl rfl (nl (eve_round (k + 1, cs[k]) [] ?hp ⟨trf, trf, ⟨⟨_, rfl, rfl⟩, ⟨_, rfl, rfl⟩, trivial⟩, tre, rfl⟩))))))))
       case hp => exact ⟨⟨by omega, by rw [mostL_step om]; omega⟩, by omega⟩
     ·try have d8 := of_decide_eq_false h8
      refine ev_skip (et (sq (rg (xm rfl rfl (xm rfl rfl (xo (q_ix_rt (m := k) ttOk rfl rfl rfl rfl rfl rfl (by simp; omega)) rfl (xf ttOk rfl rfl (xo (q_load_pr ttOk rfl rfl rfl rfl (get_map om) rfl rfl) rfl (xm rfl rfl (xb ttOk rfl rfl (nl (et (ev_cond rfl (fun h10 => ?_) (fun h10 => ?_))))))))))))))
      ·exact absurd (of_decide_eq_true h10) (by have := p2.times k om; rw [mostL_step om] at this; omega)
      ·try have d10 := of_decide_eq_false h10
       refine ev_skip (eb (et (rg (xm rfl rfl (xa rfl rfl rfl om rfl (xs rfl rfl (nl (eve_round (k + 1, mo) [] ?hp ⟨trf, trf, ⟨⟨_, rfl, rfl⟩, ⟨_, rfl, rfl⟩, trivial⟩, tre, rfl⟩))))))))
       case hp => exact ⟨⟨by omega, by rw [mostL_step om]; omega⟩, by omega⟩
    ·try have d7 := of_decide_eq_false h7
     refine ev_exit (evx_then (evx_then (evx_hit (et (sq (rg (xs rfl rfl (nl (et (ev_ret ?_))))))))))
     exact ret_law hg ttOk rfl rfl rfl
end Go.Proofs.YtinmcdcmidlgpaaGreatDoor
