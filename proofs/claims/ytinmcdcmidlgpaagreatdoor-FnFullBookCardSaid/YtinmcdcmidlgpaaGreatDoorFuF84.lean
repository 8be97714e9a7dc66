/- Walks of functions of the program, printed by a program of the prover. -/
import Derived.Test.YtinmcdcmidlgpaaGreatDoorFuF66
import Derived.Test.YtinmcdcmidlgpaaGreatDoorFuVDC
import Derived.LaidEql
import Derived.Stop.Asserts
import Derived.RowKitTokens
import Derived.Test.YtinmcdcmidlgpaaGreatDoorFuF50
import Derived.Test.YtinmcdcmidlgpaaGreatDoorFuF43
import Derived.Test.YtinmcdcmidlgpaaGreatDoorFuF20
namespace Go.Proofs.YtinmcdcmidlgpaaGreatDoor
open Go.ChangeShapes Go.WideShapes Go.ChangeAt Go.RowKit
set_option linter.unusedVariables false
set_option linter.unusedSimpArgs false
set_option maxHeartbeats 1000000
set_option maxRecDepth 100000
attribute [local irreducible] EvL Ev EvE Quiet Eff Pure RDk RDb RDo
theorem c_AskedOf1 (n : LogN) (a : Ask) (now : Int) (hT : logOkF n = true → askOkF a = true → timeOk now = true → a.seq > (findM n.seen a.client).seq → takesA n (entA n a now) = true) : Pure Tryz.prog 16 [many (logC n), many (askC a), one (iC now)] [many' (logR ((askedF n a now).1)), one' (acksR (askedF n a now).2)] := by
 refine pure_intro (N := 97) Tryz.func16 rfl rfl rfl rfl (fun H w => ?_)
 have cl := c_LogOk' n
 rw [logOk_same] at cl
 refine sq (rg (evl_e (e_box rfl rfl rfl rfl) (evl_e (e_box rfl rfl rfl rfl) (evl_e (e_alloc ttOk rfl rfl rfl rfl) (xs rfl rfl (nl (et (sq (sq (rg (xl ttOk rfl rfl (evl_call (nm := 14) (cf rfl) cl (rs_of rfl) rfl rfl rfl (xo (q_not rfl) rfl (nl (et (ev_cond_n rfl (fun h1 => ?_) (fun h1 => ?_)))))))))))))))))
 try have d1 := of_decide_eq_false h1
 refine sq (rg (xo (q_build ttOk rfl) rfl (xst ttOk rfl rfl (xs rfl rfl (nl (et (ev_ret (evr_then (ret_pureN ttOk rfl rfl ?_)))))))))
 rotate_left
 try have d1 := of_decide_eq_true h1
 obtain ⟨hk, hh, hb, he1, he2⟩ := log_all h1
 have hsm := log_small h1
 have hso := of_sok (log_seen h1).2.2
 refine ev_skip (et (sq (rg (xl ttOk rfl rfl (evl_call (nm := 18) (cf rfl) (c_copyLog n h1) (rs_of rfl) rfl rfl rfl (evl_e (e_alloc ttOk rfl rfl rfl rfl) (xst ttOk rfl rfl (nl (et (sq (sq (rg (xl ttOk rfl rfl (evl_call (nm := 20) (cf rfl) (c_AskOk' a) (rs_of rfl) rfl rfl rfl (xo (q_not rfl) rfl (xm rfl rfl (evl_partn rfl rfl (fun h2 => ?_) (fun h2 => ?_))))))))))))))))))
 try have d2 := of_decide_eq_false h2
 refine gn (nt h2) rfl rfl rfl (gn (nt h2) rfl rfl rfl (gn (nt h2) rfl rfl rfl (xo (q_pick_t rfl (nt h2) rfl) rfl (nl (et (ev_cond_kt rfl rfl (sq (rg (xl ttOk rfl rfl (xst ttOk rfl rfl (xs rfl rfl (nl (et (ev_ret (evr_then (ret_pureN ttOk rfl rfl ?_))))))))))))))))
 rotate_left
 try have d2 := of_decide_eq_true h2
 refine gm (nf h2) rfl rfl rfl rfl (evl_callg rfl rfl (nf h2) (nm := 24) (cf rfl) (c_TimeOk' now) (rs_of rfl) rfl rfl rfl (go (nf h2) rfl rfl (q_not rfl) rfl (xo (q_pick_f rfl (nf h2) rfl) rfl (nl (et (ev_cond_n rfl (fun h3 => ?_) (fun h3 => ?_)))))))
 try have d3 := of_decide_eq_false h3
 refine sq (rg (xl ttOk rfl rfl (xst ttOk rfl rfl (xs rfl rfl (nl (et (ev_ret (evr_then (ret_pureN ttOk rfl rfl ?_)))))))))
 rotate_left
 try have d3 := of_decide_eq_true h3
 refine ev_skip (et (sq (rg (xf ttOk rfl rfl (xl ttOk rfl rfl (xf ttOk rfl rfl (xl ttOk rfl rfl (evl_call (nm := 32) (cf rfl) (c_markOf n.seen a.client) (rs_of rfl) rfl rfl rfl (evl_e (e_alloc ttOk rfl rfl rfl rfl) (xst ttOk rfl rfl (nl (et (sq (ev_blk (sq (rg (xf ttOk rfl rfl (xl ttOk rfl rfl (xf ttOk rfl rfl (xl ttOk rfl rfl (xb ttOk rfl rfl (xs rfl rfl (nl (et (ev_cond rfl (fun h4 => ?_) (fun h4 => ?_))))))))))))))))))))))))))
 try have d4 := of_decide_eq_true h4
 have hfr : freshLogF n a now = withE n (entA n a now) := by unfold freshLogF; rw [hT h1 h2 h3 ‹_›]; rfl
 refine sq (rg (xl ttOk rfl rfl (xl ttOk rfl rfl (xm rfl rfl (evl_takec (nm := 43) (cf rfl) rfl rfl (c_recorded n a now h1 (hT h1 h2 h3 ‹_›)) rfl (rs_of rfl) rfl rfl rfl (xm rfl rfl (xo (q_ext rfl) rfl (xo (q_ext rfl) rfl (evl_e (e_alloc ttOk rfl rfl rfl rfl) (xst ttOk rfl rfl (xs rfl rfl (nl (et (sq (rg (evl_e (e_alloc ttOk rfl rfl rfl rfl) (nl (et (sq (sq (rg (xm rfl rfl (xo (q_mkif kr rfl) rfl (evl_asnil (cf rfl) as_nil rfl rfl (xm rfl rfl (gn rfl rfl rfl rfl (gn rfl rfl rfl rfl (gn rfl rfl rfl rfl (gn rfl rfl rfl rfl (xo (q_pick_f rfl rfl rfl) rfl (nl (et (ev_cond_kf rfl rfl (ev_skip (et (sq (rg (xl ttOk rfl rfl (xst ttOk rfl rfl (xs rfl rfl (nl (et (ev_ret (evr_blk (evr_then (ret_pureN ttOk rfl rfl ?_))))))))))))))))))))))))))))))))))))))))))))))
 rotate_left
 try have d4 := of_decide_eq_false h4
 refine sq (rg (xf ttOk rfl rfl (xl ttOk rfl rfl (xf ttOk rfl rfl (xl ttOk rfl rfl (xb ttOk rfl rfl (xm rfl rfl (evl_part rfl rfl (fun h5 => ?_) (fun h5 => ?_)))))))))
 try have d5 := of_decide_eq_true h5
 refine go h5 rfl rfl (q_fieldAddr ttOk rfl) rfl (go h5 rfl rfl (q_load ttOk rfl) rfl (go h5 rfl rfl (q_fieldAddr ttOk rfl) rfl (go h5 rfl rfl (q_load ttOk rfl) rfl (go h5 rfl rfl (q_bin ttOk rfl) rfl (xo (q_pick_t rfl h5 rfl) rfl (xs rfl rfl (nl (et (ev_cond rfl (fun h6 => ?_) (fun h6 => ?_))))))))))
 try have d6 := of_decide_eq_true h6
 refine sq (rg (xl ttOk rfl rfl (xst ttOk rfl rfl (xs rfl rfl (nl (et (ev_ret (evr_blk (evr_then (ret_pureN ttOk rfl rfl ?_))))))))))
 rotate_left
 try have d6 := of_decide_eq_false h6
 refine sq (rg (xf ttOk rfl rfl (xl ttOk rfl rfl (xf ttOk rfl rfl (xl ttOk rfl rfl (xb ttOk rfl rfl (xs rfl rfl (nl (et (ev_cond rfl (fun h7 => ?_) (fun h7 => ?_)))))))))))
 try have d7 := of_decide_eq_true h7
 refine sq (ev_frz (cs := logC n) 3 rfl rfl rfl (fun HF16_0 hHF16_0 => ?_))
 refine ev_frz (cs := askC a) 4 rfl rfl rfl (fun HF16_1 hHF16_1 => ?_)
 refine ev_frz (cs := markC (findM n.seen a.client)) 9 rfl rfl rfl (fun HF16_2 hHF16_2 => ?_)
 refine ev_drawh mo (rdh_take 1 rfl kr trivial (QuietW.h (qw_fieldAddr ttOk rfl)) rfl (rdh_take 2 rfl kr trivial (q_loadH ttOk rfl rfl) rfl (rdh_take 3 rfl kr trivial (QuietW.h (qw_fieldAddr ttOk rfl)) rfl (rdh_take 4 rfl kr trivial (q_loadH ttOk rfl rfl) rfl (rdh_take 5 rfl kr trivial (QuietW.h (qw_fieldAddr ttOk rfl)) rfl (rdh_take 6 rfl kr trivial (q_loadH ttOk rfl rfl) rfl (rdh_take 7 rfl kr trivial (QuietW.h (qw_fieldAddr ttOk rfl)) rfl (rdh_take 8 rfl kr trivial (q_loadH ttOk rfl rfl) rfl (rdh_2 0 9 kr ?_ ?_)))))))))
 refine rdho_q rfl trivial (q_load ttOk rfl) rfl (rdh_2 9 11 kr ?_ ?_)
 refine rdho_q rfl trivial (q_build ttOk rfl) rfl (rdh_2 10 11 kr ?_ ?_)
 refine rdho_eff rfl trivial (e_lit ttOk rfl rfl rfl) (rdh_1 11 kr (rdho_eff rfl trivial (e_store ttOk rfl) (rdh_take 12 rfl kr trivial (QuietW.h (qw_assign rfl)) rfl (rdh_endq kr (et (ev_ret (evr_blk (evr_then (retH rfl (ret_pureN ttOk rfl rfl ?_))))))))))
 rotate_left
 refine rdho_eff rfl trivial (e_store ttOk rfl) (rdh_1 10 kr (rdho_eff rfl trivial (e_lit ttOk rfl rfl rfl) (rdh_take 12 rfl kr trivial (QuietW.h (qw_assign rfl)) rfl (rdh_endq kr (et (ev_ret (evr_blk (evr_then (retH rfl (ret_pureN ttOk rfl rfl ?_))))))))))
 rotate_left
 refine rdho_eff rfl trivial (e_store ttOk rfl) (rdh_1 9 kr (rdho_q rfl trivial (q_build ttOk rfl) rfl (rdh_1 10 kr (rdho_eff rfl trivial (e_lit ttOk rfl rfl rfl) (rdh_take 12 rfl kr trivial (QuietW.h (qw_assign rfl)) rfl (rdh_endq kr (et (ev_ret (evr_blk (evr_then (retH rfl (ret_pureN ttOk rfl rfl ?_))))))))))))
 rotate_left
 refine rdho_q rfl trivial (q_build ttOk rfl) rfl (rdh_2 0 10 kr ?_ ?_)
 refine rdho_q rfl trivial (q_load ttOk rfl) rfl (rdh_2 10 11 kr ?_ ?_)
 refine rdho_eff rfl trivial (e_lit ttOk rfl rfl rfl) (rdh_1 11 kr (rdho_eff rfl trivial (e_store ttOk rfl) (rdh_take 12 rfl kr trivial (QuietW.h (qw_assign rfl)) rfl (rdh_endq kr (et (ev_ret (evr_blk (evr_then (retH rfl (ret_pureN ttOk rfl rfl ?_))))))))))
 rotate_left
 refine rdho_eff rfl trivial (e_store ttOk rfl) (rdh_1 10 kr (rdho_eff rfl trivial (e_lit ttOk rfl rfl rfl) (rdh_take 12 rfl kr trivial (QuietW.h (qw_assign rfl)) rfl (rdh_endq kr (et (ev_ret (evr_blk (evr_then (retH rfl (ret_pureN ttOk rfl rfl ?_))))))))))
 rotate_left
 refine rdho_eff rfl trivial (e_lit ttOk rfl rfl rfl) (rdh_1 0 kr (rdho_q rfl trivial (q_load ttOk rfl) rfl (rdh_1 11 kr (rdho_eff rfl trivial (e_store ttOk rfl) (rdh_take 12 rfl kr trivial (QuietW.h (qw_assign rfl)) rfl (rdh_endq kr (et (ev_ret (evr_blk (evr_then (retH rfl (ret_pureN ttOk rfl rfl ?_))))))))))))
 rotate_left
 try have d7 := of_decide_eq_false h7
 refine ev_skip (eb (et (sq (ev_frz (cs := logC n) 3 rfl rfl rfl (fun HF17_0 hHF17_0 => ?_)))))
 refine ev_frz (cs := askC a) 4 rfl rfl rfl (fun HF17_1 hHF17_1 => ?_)
 refine ev_frz (cs := markC (findM n.seen a.client)) 9 rfl rfl rfl (fun HF17_2 hHF17_2 => ?_)
 refine ev_drawh mo (rdh_take 1 rfl kr trivial (QuietW.h (qw_fieldAddr ttOk rfl)) rfl (rdh_take 2 rfl kr trivial (q_loadH ttOk rfl rfl) rfl (rdh_take 3 rfl kr trivial (QuietW.h (qw_fieldAddr ttOk rfl)) rfl (rdh_take 4 rfl kr trivial (q_loadH ttOk rfl rfl) rfl (rdh_take 5 rfl kr trivial (QuietW.h (qw_fieldAddr ttOk rfl)) rfl (rdh_take 6 rfl kr trivial (q_loadH ttOk rfl rfl) rfl (rdh_2 0 7 kr ?_ ?_)))))))
 refine rdho_q rfl trivial (q_load ttOk rfl) rfl (rdh_2 7 9 kr ?_ ?_)
 refine rdho_q rfl trivial (q_build ttOk rfl) rfl (rdh_2 8 9 kr ?_ ?_)
 refine rdho_eff rfl trivial (e_lit ttOk rfl rfl rfl) (rdh_1 9 kr (rdho_eff rfl trivial (e_store ttOk rfl) (rdh_take 10 rfl kr trivial (QuietW.h (qw_assign rfl)) rfl (rdh_endq kr (et (ev_ret (retH rfl (ret_pureN ttOk rfl rfl ?_))))))))
 rotate_left
 refine rdho_eff rfl trivial (e_store ttOk rfl) (rdh_1 8 kr (rdho_eff rfl trivial (e_lit ttOk rfl rfl rfl) (rdh_take 10 rfl kr trivial (QuietW.h (qw_assign rfl)) rfl (rdh_endq kr (et (ev_ret (retH rfl (ret_pureN ttOk rfl rfl ?_))))))))
 rotate_left
 refine rdho_eff rfl trivial (e_store ttOk rfl) (rdh_1 7 kr (rdho_q rfl trivial (q_build ttOk rfl) rfl (rdh_1 8 kr (rdho_eff rfl trivial (e_lit ttOk rfl rfl rfl) (rdh_take 10 rfl kr trivial (QuietW.h (qw_assign rfl)) rfl (rdh_endq kr (et (ev_ret (retH rfl (ret_pureN ttOk rfl rfl ?_))))))))))
 rotate_left
 refine rdho_q rfl trivial (q_build ttOk rfl) rfl (rdh_2 0 8 kr ?_ ?_)
 refine rdho_q rfl trivial (q_load ttOk rfl) rfl (rdh_2 8 9 kr ?_ ?_)
 refine rdho_eff rfl trivial (e_lit ttOk rfl rfl rfl) (rdh_1 9 kr (rdho_eff rfl trivial (e_store ttOk rfl) (rdh_take 10 rfl kr trivial (QuietW.h (qw_assign rfl)) rfl (rdh_endq kr (et (ev_ret (retH rfl (ret_pureN ttOk rfl rfl ?_))))))))
 rotate_left
 refine rdho_eff rfl trivial (e_store ttOk rfl) (rdh_1 8 kr (rdho_eff rfl trivial (e_lit ttOk rfl rfl rfl) (rdh_take 10 rfl kr trivial (QuietW.h (qw_assign rfl)) rfl (rdh_endq kr (et (ev_ret (retH rfl (ret_pureN ttOk rfl rfl ?_))))))))
 rotate_left
 refine rdho_eff rfl trivial (e_lit ttOk rfl rfl rfl) (rdh_1 0 kr (rdho_q rfl trivial (q_load ttOk rfl) rfl (rdh_1 9 kr (rdho_eff rfl trivial (e_store ttOk rfl) (rdh_take 10 rfl kr trivial (QuietW.h (qw_assign rfl)) rfl (rdh_endq kr (et (ev_ret (retH rfl (ret_pureN ttOk rfl rfl ?_))))))))))
 rotate_left
 try have d5 := of_decide_eq_false h5
 refine gn h5 rfl rfl rfl (gn h5 rfl rfl rfl (gn h5 rfl rfl rfl (gn h5 rfl rfl rfl (gn h5 rfl rfl rfl (xo (q_pick_f rfl h5 rfl) rfl (xs rfl rfl (nl (et (ev_cond_kf rfl rfl (sq (rg (xf ttOk rfl rfl (xl ttOk rfl rfl (xf ttOk rfl rfl (xl ttOk rfl rfl (xb ttOk rfl rfl (xs rfl rfl (nl (et (ev_cond rfl (fun h8 => ?_) (fun h8 => ?_)))))))))))))))))))))
 exact absurd (of_decide_eq_true h8) d5
 try have d8 := of_decide_eq_false h8
 refine ev_skip (eb (et (sq (ev_frz (cs := logC n) 3 rfl rfl rfl (fun HF17_0 hHF17_0 => ?_)))))
 refine ev_frz (cs := askC a) 4 rfl rfl rfl (fun HF17_1 hHF17_1 => ?_)
 refine ev_frz (cs := markC (findM n.seen a.client)) 9 rfl rfl rfl (fun HF17_2 hHF17_2 => ?_)
 refine ev_drawh mo (rdh_take 1 rfl kr trivial (QuietW.h (qw_fieldAddr ttOk rfl)) rfl (rdh_take 2 rfl kr trivial (q_loadH ttOk rfl rfl) rfl (rdh_take 3 rfl kr trivial (QuietW.h (qw_fieldAddr ttOk rfl)) rfl (rdh_take 4 rfl kr trivial (q_loadH ttOk rfl rfl) rfl (rdh_take 5 rfl kr trivial (QuietW.h (qw_fieldAddr ttOk rfl)) rfl (rdh_take 6 rfl kr trivial (q_loadH ttOk rfl rfl) rfl (rdh_2 0 7 kr ?_ ?_)))))))
 refine rdho_q rfl trivial (q_load ttOk rfl) rfl (rdh_2 7 9 kr ?_ ?_)
 refine rdho_q rfl trivial (q_build ttOk rfl) rfl (rdh_2 8 9 kr ?_ ?_)
 refine rdho_eff rfl trivial (e_lit ttOk rfl rfl rfl) (rdh_1 9 kr (rdho_eff rfl trivial (e_store ttOk rfl) (rdh_take 10 rfl kr trivial (QuietW.h (qw_assign rfl)) rfl (rdh_endq kr (et (ev_ret (retH rfl (ret_pureN ttOk rfl rfl ?_))))))))
 rotate_left
 refine rdho_eff rfl trivial (e_store ttOk rfl) (rdh_1 8 kr (rdho_eff rfl trivial (e_lit ttOk rfl rfl rfl) (rdh_take 10 rfl kr trivial (QuietW.h (qw_assign rfl)) rfl (rdh_endq kr (et (ev_ret (retH rfl (ret_pureN ttOk rfl rfl ?_))))))))
 rotate_left
 refine rdho_eff rfl trivial (e_store ttOk rfl) (rdh_1 7 kr (rdho_q rfl trivial (q_build ttOk rfl) rfl (rdh_1 8 kr (rdho_eff rfl trivial (e_lit ttOk rfl rfl rfl) (rdh_take 10 rfl kr trivial (QuietW.h (qw_assign rfl)) rfl (rdh_endq kr (et (ev_ret (retH rfl (ret_pureN ttOk rfl rfl ?_))))))))))
 rotate_left
 refine rdho_q rfl trivial (q_build ttOk rfl) rfl (rdh_2 0 8 kr ?_ ?_)
 refine rdho_q rfl trivial (q_load ttOk rfl) rfl (rdh_2 8 9 kr ?_ ?_)
 refine rdho_eff rfl trivial (e_lit ttOk rfl rfl rfl) (rdh_1 9 kr (rdho_eff rfl trivial (e_store ttOk rfl) (rdh_take 10 rfl kr trivial (QuietW.h (qw_assign rfl)) rfl (rdh_endq kr (et (ev_ret (retH rfl (ret_pureN ttOk rfl rfl ?_))))))))
 rotate_left
 refine rdho_eff rfl trivial (e_store ttOk rfl) (rdh_1 8 kr (rdho_eff rfl trivial (e_lit ttOk rfl rfl rfl) (rdh_take 10 rfl kr trivial (QuietW.h (qw_assign rfl)) rfl (rdh_endq kr (et (ev_ret (retH rfl (ret_pureN ttOk rfl rfl ?_))))))))
 rotate_left
 refine rdho_eff rfl trivial (e_lit ttOk rfl rfl rfl) (rdh_1 0 kr (rdho_q rfl trivial (q_load ttOk rfl) rfl (rdh_1 9 kr (rdho_eff rfl trivial (e_store ttOk rfl) (rdh_take 10 rfl kr trivial (QuietW.h (qw_assign rfl)) rfl (rdh_endq kr (et (ev_ret (retH rfl (ret_pureN ttOk rfl rfl ?_))))))))))
 rotate_left
 all_goals
  first
  | (rw [ak_no ‹_›]; simp [RpLe, L2, RcLe, zeroL, zeroD, zeroT, noHead]; done)
  | (rw [ak_bad1 ‹_› ‹_›]; simp [RpLe, L2, RcLe]; done)
  | (rw [ak_bad2 ‹_› ‹_›]; simp [RpLe, L2, RcLe]; done)
  | (rw [ak_fresh ‹_› ‹_› ‹_› ‹_›]; simp [RpLe, L2, RcLe]; done)
  | (rw [ak_fresh ‹_› ‹_› ‹_› ‹_›, hfr]; simp [RpLe, L2, RcLe]; done)
  | (rw [ak_old ‹_› ‹_› ‹_› ‹_›]; simp [RpLe, L2, RcLe]; done)
  | (rw [ak_old ‹_› ‹_› ‹_› (ak_lt ‹_› ‹_›)]; simp [RpLe, L2, RcLe]; done)
  | (rw [ak_wait ‹_› ‹_› ‹_› (ak_le ‹_› ‹_›) ‹_›]; simp [RpLe, L2, RcLe]; done)
  | (rw [ak_wait ‹_› ‹_› ‹_› ‹_› ‹_›]; simp [RpLe, L2, RcLe]; done)
  | (rw [ak_told ‹_› ‹_› ‹_› (ak_le ‹_› ‹_›) ‹_›]; simp [RpLe, L2, RcLe]; done)
  | (have hq : a.seq = (findM n.seen a.client).seq := by assumption
     rw [ak_told ‹_› ‹_› ‹_› hq ‹_›, hq]; simp [RpLe, L2, RcLe]; done)
theorem Lg.ask1 {n : LogN} {k : Nat} (h : Lg k n) {a : Ask} {now : Int} (ha : askOkF a = true) (hn : 0 ≤ now ∧ now < 1000) (hk : k < 19) : logOkF n = true → askOkF a = true → timeOk now = true → a.seq > (findM n.seen a.client).seq → takesA n (entA n a now) = true :=
 fun _ _ h2 _ => h.takes ha h2 om (by have := h.len; have := h.last; omega)
theorem time_small {now : Int} (hn : 0 ≤ now ∧ now < 1000) : timeOk now = true := inB_iff.2 ⟨by omega, by omega⟩
theorem sameL_refl {n : LogN} : sameL n n = true := by
 simp [sameL, eqD, eqX, eqHd, eqBk, eqN]
section
variable {n : LogN} {k : Nat}
end
def Fc (len k c : Nat) : Prop := c ≤ len ∧ (3 * k ≤ c ∨ c = len)
theorem Fc.next {len k c g : Nat} (h : Fc len k c) (hg : g = min 3 (len - c)) : Fc len (k + 1) (c + g) := by
 obtain ⟨h1, h2⟩ := h
 exact ⟨by omega, by omega⟩
structure Nt (k m : Nat) (n : LogN) : Prop where
 lg : Lg k n
 more : n.more = false
 len : n.book.entries.length = m
section
variable {n : LogN} {k m : Nat}
theorem Nt.ask1 (h : Nt k m n) {a : Ask} {now : Int} (ha : askOkF a = true) (hn : 0 ≤ now ∧ now < 1000) (hk : k < 1900) (hm : m < 20) : logOkF n = true → askOkF a = true → timeOk now = true → a.seq > (findM n.seen a.client).seq → takesA n (entA n a now) = true :=
 fun _ _ h2 _ => h.lg.takes ha h2 om (by rw [h.len]; exact hm)
theorem Nt.ask (h : Nt k m n) {a : Ask} {now : Int} (h1 : askerOk a.client = true) (h2 : opOk a.kind a.a a.b a.c a.d = true) (h3 : a.seq = (findM n.seen a.client).seq + 1) (hn : 0 ≤ now ∧ now < 1000) (hk : k < 1800) (hm : m < 20) :
  Nt (k + 1) (m + 1) (askedF n a now).1 ∧ (askedF n a now).1.head = n.head ∧ (askedF n a now).1.durable = n.durable ∧ n.book.entries = (askedF n a now).1.book.entries.take m := by
 obtain ⟨ha, hq, hs⟩ := h.lg.fresh_ok h1 h2 h3 om
 have ht := time_small hn
 have hl := h.len
 have htk := h.lg.takes ha ht om om
 have hw := h.lg.withE ha ht om om hs hq
 have e : (askedF n a now).1 = Go.Proofs.YtinmcdcmidlgpaaGreatDoor.withE n (entA n a now) := by
  rw [ak_fresh h.lg.ok ha ht hs]
  show freshLogF n a now = _
  unfold freshLogF
  rw [htk]
  rfl
 rw [e]
 have he : (Go.Proofs.YtinmcdcmidlgpaaGreatDoor.withE n (entA n a now)).book.entries = n.book.entries ++ [entA n a now] := rfl
 refine ⟨⟨hw, h.more, by simp [he, hl]⟩, rfl, rfl, ?_⟩
 rw [he, List.take_append_of_le_length om, List.take_of_length_le om]
theorem newNt : Nt 0 0 newLogF := ⟨newLg, rfl, rfl⟩
theorem Nt.sync (h : Nt k m n) : Nt k m (syncedF n).1 ∧ (syncedF n).1.head = n.head ∧ (syncedF n).1.durable = n.head.base + m ∧ (syncedF n).1.book = n.book := by
 have hs := h.lg.sync
 have hb := (log_bases h.lg.ok).1
 have hl := h.len
 have e : lastB n.book = n.head.base + m := by unfold lastB; omega
 rw [sy_less h.lg.ok h.more] at hs ⊢
 exact ⟨⟨hs, h.more, h.len⟩, rfl, e, rfl⟩
theorem Nt.held (h : Nt k m n) (hd : n.durable = n.head.base + m) : heldF n = n.book.entries := by
 have hb := (log_bases h.lg.ok).1
 rw [held_yes h.lg.ok, List.take_of_length_le (by rw [h.len]; omega)]
theorem Nt.trim (h : Nt k m n) {x : Int} (hd : n.durable = n.head.base + m) (h1 : n.head.base < x) (h2 : x ≤ n.durable) :
  Nt k (m - (x - n.head.base).toNat) (syncedF (trimAskedF n x)).1 ∧ (syncedF (trimAskedF n x)).1.head.base = x ∧ (syncedF (trimAskedF n x)).1.durable = n.durable := by
 have ht := (h.lg.trim x)
 have hs := ht.sync
 have hb := (log_bases h.lg.ok).1
 have hl := h.len
 have e := h.lg.j.trim_eq h.more (inB_iff.2 ⟨by omega, h2⟩ : inB x (n.head.base + 1) n.durable = true)
 rw [e] at ht hs ⊢
 have hx : inB x n.book.base (lastB n.book) = true := inB_iff.2 ⟨by omega, by unfold lastB; omega⟩
 have e2 := tr_yes h.lg.j.parts.2.2.1 hx
 rw [sy_more ht.ok rfl] at hs ⊢
 have e3 : (nextF n x).base = x := rfl
 simp only [e3, e2] at hs ⊢
 refine ⟨⟨hs, rfl, ?_⟩, trivial, by unfold lastB; omega⟩
 show (n.book.entries.drop _).length = _
 rw [List.length_drop, hl, hb]
end
structure Rg (b : Int) (j : Nat) (H : List Entry) (n : LogN) : Prop where
 nt : Nt (20 + j) ((20 - b).toNat + j) n
 base : n.head.base = b
 dur : n.durable = 20
 pre : n.book.entries.take (20 - b).toNat = H
theorem Rg.next {b : Int} {j : Nat} {H : List Entry} {n : LogN} (h : Rg b j H n) (hb : 3 ≤ b ∧ b ≤ 9) (hj : j < b) {a : Ask} {now : Int} (h1 : askerOk a.client = true) (h2 : opOk a.kind a.a a.b a.c a.d = true) (h3 : a.seq = (findM n.seen a.client).seq + 1) (hn : 0 ≤ now ∧ now < 1000) : Rg b (j + 1) H (askedF n a now).1 := by
 obtain ⟨g1, g2, g3, g4⟩ := h.nt.ask h1 h2 h3 hn om om
 refine ⟨g1, by rw [g2, h.base], by rw [g3, h.dur], ?_⟩
 rw [← h.pre, g4, List.take_take]
 congr 1
 omega
theorem full_out {n : LogN} {a : Ask} {now : Int} (hl : n.book.entries.length = 20) : takesA n (entA n a now) = false := by
 unfold takesA
 rw [show fitsF n.book (entA n a now) = false from by
  cases hf : fitsF n.book (entA n a now) with
  | false => rfl
  | true => have := (fits_iff.1 hf).2.2.2; omega]
 rfl
theorem full_ask {n : LogN} {k : Nat} (h : Nt k 20 n) {a : Ask} (ha : askOkF a = true) (hs : a.seq > (findM n.seen a.client).seq) : askedF n a 70 = (n, []) := by
 rw [ak_fresh h.lg.ok ha (by decide) hs]
 unfold freshLogF
 rw [full_out h.len]
 rfl
theorem sync_seen {n : LogN} {k : Nat} (h : Lg k n) : (syncedF n).1.seen = n.seen ∧ (syncedF n).1.owe = [] := by
 cases hm : n.more
 ·rw [sy_less h.ok hm]; exact ⟨rfl, rfl⟩
 ·rw [sy_more h.ok hm]; exact ⟨rfl, rfl⟩
theorem trim_seen {n : LogN} {k : Nat} (h : Nt k 20 n) {x : Int} (h1 : n.head.base < x) (h2 : x ≤ n.durable) : (trimAskedF n x).seen = n.seen := by
 rw [h.lg.j.trim_eq h.more (inB_iff.2 ⟨by omega, h2⟩ : inB x (n.head.base + 1) n.durable = true)]
def FullZ (a : Ask) (n1 : LogN) (q : Int) (y z : LogN) : Prop := (syncedF (trimAskedF n1 q)).1 = y ∧ y.head.base = q ∧ askedF y a 70 = (z, []) ∧ z.owe = [⟨a.client, a.seq, 21, a.seq⟩] ∧ logOkF z = true
theorem Nt.full {n : LogN} (h : Nt 20 20 n) (h0 : n.head.base = 0) (hd : n.durable = 0) {a : Ask} (h1 : askerOk a.client = true) (h2 : opOk a.kind a.a a.b a.c a.d = true) (h3 : a.seq = (findM n.seen a.client).seq + 1) :
  n.owe.length = 20 ∧ askedF n a 70 = (n, []) ∧ ∃ n1, syncedF n = (n1, n.owe) ∧ askedF n1 a 70 = (n1, []) ∧ ∀ q : Int, 1 ≤ q → q ≤ 20 → ∃ y z, FullZ a n1 q y z := by
 obtain ⟨ha, hq, hs⟩ := h.lg.fresh_ok h1 h2 h3 om
 have hb := (log_bases h.lg.ok).1
 have hbk := h.lg.j.parts.2.2.1
 have hl := h.len
 have ho : n.owe.length = 20 := by
  rw [log_owe h.lg.ok, List.length_map, show n.durable + 1 = n.book.base + 1 by omega, part_take hbk, List.length_take]
  omega
 obtain ⟨s1, s2, s3, s4⟩ := h.sync
 obtain ⟨s5, s6⟩ := sync_seen h.lg
 refine ⟨ho, full_ask h ha hs, (syncedF n).1, by rw [sy_less h.lg.ok h.more], full_ask s1 ha (by rw [s5]; exact hs), fun q hq1 hq2 => ?_⟩
 have hd1 : (syncedF n).1.durable = 20 := by rw [s3, h0]; rfl
 obtain ⟨t1, t2, t3⟩ := s1.trim (x := q) (by rw [s3, s2]) (by rw [s2, h0]; omega) (by rw [hd1]; exact hq2)
 have t4 := trim_seen s1 (x := q) (by rw [s2, h0]; omega) (by rw [hd1]; exact hq2)
 obtain ⟨t5, t6⟩ := sync_seen (s1.lg.trim q)
 rw [t4, s5] at t5
 have hsy : a.seq > (findM (syncedF (trimAskedF (syncedF n).1 q)).1.seen a.client).seq := by rw [t5]; exact hs
 obtain ⟨y, hy⟩ : ∃ y, y = (syncedF (trimAskedF (syncedF n).1 q)).1 := ⟨_, rfl⟩
 rw [← hy] at t1 t2 t3 t6 hsy
 have hyl : y.book.entries.length < 20 := by rw [t1.len, s2, h0]; omega
 have h70 : timeOk 70 = true := by decide
 have hfi := t1.lg.fits ha h70 om hyl
 have htk := t1.lg.takes ha h70 om hyl
 have hw := t1.lg.withE ha h70 om hyl hsy hq
 refine ⟨y, Go.Proofs.YtinmcdcmidlgpaaGreatDoor.withE y (entA y a 70), hy.symm, t2, ?_, ?_, hw.ok⟩
 ·rw [ak_fresh t1.lg.ok ha h70 hsy]
  unfold freshLogF
  rw [htk]
  rfl
 ·show y.owe ++ [ackF (entA y a 70)] = _
  rw [t6]
  unfold ackF
  rw [if_pos (fits_iff.1 hfi).1]
  have hyb := (log_bases t1.lg.ok).1
  have : lastB y.book + 1 = 21 := by unfold lastB; rw [t1.len, hyb, t2, s2, h0]; omega
  show [(⟨a.client, a.seq, lastB y.book + 1, a.seq⟩ : Ack)] = _
  rw [this]
end Go.Proofs.YtinmcdcmidlgpaaGreatDoor
