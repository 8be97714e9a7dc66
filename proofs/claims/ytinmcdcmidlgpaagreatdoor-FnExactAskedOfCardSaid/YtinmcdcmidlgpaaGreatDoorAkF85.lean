/- Walks of functions of the program, printed by a program of the prover. -/
import Derived.Test.YtinmcdcmidlgpaaGreatDoorAkF54
import Derived.Test.YtinmcdcmidlgpaaGreatDoorAkF54I
import Derived.Test.YtinmcdcmidlgpaaGreatDoorAkVL
import Derived.Test.YtinmcdcmidlgpaaGreatDoorAkF51
import Derived.Test.YtinmcdcmidlgpaaGreatDoorAkF56
import Derived.LaidLaws
import Derived.LaidHandle
import Derived.RowKitTokens
import Derived.Test.YtinmcdcmidlgpaaGreatDoorRows
namespace Go.Proofs.YtinmcdcmidlgpaaGreatDoor
open Go.ChangeShapes Go.WideShapes Go.ChangeAt Go.RowKit
set_option linter.unusedVariables false
set_option linter.unusedSimpArgs false
set_option maxHeartbeats 1000000
set_option maxRecDepth 100000
attribute [local irreducible] EvL Ev EvE Quiet Eff Pure RDk RDb RDo
def errW (v : Value) (w : World) : Prop := w.cell? ⟨0, 0, none⟩ = some v ∧ w.cell? ⟨1, 0, none⟩ = some (.iface 239 (.agg #[.pointer (some ⟨2, 119, none⟩)])) ∧ (∃ eb : Addr, v = .iface 285 (.pointer (some eb)))
theorem c_recNo (v : Value) (hv1 : v.oneCell' = true) (n : LogN) (a : Ask) (now : Int) (h : logOkF n = true) (hno : takesA n (entA n a now) = false) : PureE (errW v) Tryz.prog 66 [many (logC n), many (askC a), one (iC now)] 19 122 182 [.int .i64 a.client, .int .i64 a.seq, .int .i64 a.kind, .int .i64 a.a, .int .i64 a.b, .int .i64 a.c, .int .i64 a.d, v] := by
 obtain ⟨hk, hh, hb, he1, he2⟩ := log_all h
 have hsm := log_small h
 have hbd := book_bd hb
 have hbl := book_last hb
 have hbl2 := book_last2 hb
 have hbq : lastB n.book = n.book.base + n.book.entries.length := rfl
 refine pureE_intro (N := 79) Tryz.func66 rfl rfl rfl rfl (fun H w hG hHw => ?_)
 refine sq (rg (evl_e (e_box rfl rfl rfl rfl) (evl_e (e_box rfl rfl rfl rfl) (evl_e (e_alloc ttOk rfl rfl rfl rfl) (xs rfl rfl (nl (et (sq ?_))))))))
 refine' ev_draw [17] mo ?hdr1 ?kdr1
 case hdr1 =>
  refine rk0 0 rfl (q_fieldAddr ttOk rfl) rfl (rk0 1 rfl (q_load ttOk rfl) rfl (rk0 4 rfl (q_move rfl) rfl (rk0 5 rfl (q_fieldAddr ttOk rfl) rfl (rk0 6 rfl (q_load ttOk rfl) rfl (rk0 9 rfl (q_fieldAddr ttOk rfl) rfl (rk0 10 rfl (q_load ttOk rfl) rfl (rk0 11 rfl (q_fieldAddr ttOk rfl) rfl (rk0 12 rfl (q_load ttOk rfl) rfl (rk0 13 rfl (q_fieldAddr ttOk rfl) rfl (rk0 14 rfl (q_load ttOk rfl) rfl (rdk_two 2 16 kr ?_ ?_)))))))))))
  ·refine rdo_call (nm := 13) rfl trivial (cf rfl) (c_lastOf n.book hb) (rs_of rfl) rfl rfl rfl (rk0 3 rfl (q_ar rfl rfl rfl om) rfl (rdk_two 7 16 kr ?_ ?_))
   ·refine rdo_call (nm := 18) rfl trivial (cf rfl) (c_timeOf n.book hb) (rs_of rfl) rfl rfl rfl (rk0 8 rfl (q_max rfl rfl) rfl (rk0 15 rfl (q_build ttOk rfl) rfl (rdk_one 16 kr (rdo_new rfl trivial (e_alloc ttOk rfl rfl rfl rfl) (rdk_one 17 kr (rdo_brk rfl rfl trivial (e_store ttOk rfl) ?_))))))
    exact rdb_fin kr
   ·refine rdo_new rfl trivial (e_alloc ttOk rfl rfl rfl rfl) (rdk_one 7 kr (rdo_call (nm := 18) rfl trivial (cf rfl) (c_timeOf n.book hb) (rs_of rfl) rfl rfl rfl (rk0 8 rfl (q_max rfl rfl) rfl (rk0 15 rfl (q_build ttOk rfl) rfl (rdk_one 17 kr (rdo_brk rfl rfl trivial (e_store ttOk rfl) ?_))))))
    exact rdb_le [] kr lei
  ·refine rdo_new rfl trivial (e_alloc ttOk rfl rfl rfl rfl) (rdk_one 2 kr (rdo_call (nm := 13) rfl trivial (cf rfl) (c_lastOf n.book hb) (rs_of rfl) rfl rfl rfl (rk0 3 rfl (q_ar rfl rfl rfl om) rfl (rdk_one 7 kr (rdo_call (nm := 18) rfl trivial (cf rfl) (c_timeOf n.book hb) (rs_of rfl) rfl rfl rfl (rk0 8 rfl (q_max rfl rfl) rfl (rk0 15 rfl (q_build ttOk rfl) rfl (rdk_one 17 kr (rdo_brk rfl rfl trivial (e_store ttOk rfl) ?_)))))))))
   exact rdb_le [] kr lei
 refine et (sq (sq (rg (xf ttOk rfl rfl (xl ttOk rfl rfl (xl ttOk rfl rfl (evl_call (nm := 30) (cf rfl) (c_fits n.book (entA n a now) hb) (rs_of rfl) rfl rfl rfl (xo (q_not rfl) rfl (nl (et (ev_cond_n rfl (fun h1 => ?_) (fun h1 => ?_))))))))))))
 ·refine sq (ev_frz (cs := logC n) 3 rfl rfl rfl (fun HF3_0 hHF3_0 => ?_))
  refine ev_frz (cs := askC a) 4 rfl rfl rfl (fun HF3_1 hHF3_1 => ?_)
  refine ev_drawh mo (rdh_take 0 rfl kr trivial (q_loadH ttOk rfl rfl) rfl (rdh_take 1 rfl kr trivial (q_loadH ttOk rfl rfl) rfl (rdh_take 2 rfl kr trivial (q_gloadH ttOk rfl rfl rfl (rcell_mono hHF3_1 (rcell_mono hHF3_0 (rcell_heap9 hG.1 hHw))) hv1) rfl (rdh_2 3 6 kr ?_ ?_))))
  ·refine rdho_q rfl trivial (q_build ttOk rfl) rfl (rdh_2 4 6 kr ?_ ?_)
   ·refine rdho_eff rfl trivial (e_box rfl rfl rfl rfl) (rdh_2 5 6 kr ?_ ?_)
    ·refine rdho_q rfl trivial (q_mkib kr rfl) rfl (rdh_1 6 kr (rdho_eff rfl trivial (e_store ttOk rfl) (rdh_take 7 rfl kr trivial (QuietW.h (qw_assign rfl)) rfl (rdh_endq kr (et (ev_ret (evr_then ?_)))))))
     exact ret_pureE ttOk rfl rfl rfl
    ·refine rdho_eff rfl trivial (e_store ttOk rfl) (rdh_1 5 kr (rdho_q rfl trivial (q_mkib kr rfl) rfl (rdh_take 7 rfl kr trivial (QuietW.h (qw_assign rfl)) rfl (rdh_endq kr (et (ev_ret (evr_then ?_)))))))
     exact ret_pureE ttOk rfl rfl rfl
   ·refine rdho_eff rfl trivial (e_store ttOk rfl) (rdh_1 4 kr (rdho_eff rfl trivial (e_box rfl rfl rfl rfl) (rdh_1 5 kr (rdho_q rfl trivial (q_mkib kr rfl) rfl (rdh_take 7 rfl kr trivial (QuietW.h (qw_assign rfl)) rfl (rdh_endq kr (et (ev_ret (evr_then ?_)))))))))
    exact ret_pureE ttOk rfl rfl rfl
  ·refine rdho_eff rfl trivial (e_store ttOk rfl) (rdh_1 3 kr (rdho_q rfl trivial (q_build ttOk rfl) rfl (rdh_1 4 kr (rdho_eff rfl trivial (e_box rfl rfl rfl rfl) (rdh_1 5 kr (rdho_q rfl trivial (q_mkib kr rfl) rfl (rdh_take 7 rfl kr trivial (QuietW.h (qw_assign rfl)) rfl (rdh_endq kr (et (ev_ret (evr_then ?_)))))))))))
   exact ret_pureE ttOk rfl rfl rfl
 ·have hent := (fits_iff.1 h1).1
  refine ev_skip (et (sq (rg (xf ttOk rfl rfl (xl ttOk rfl rfl (xl ttOk rfl rfl (evl_call (nm := 42) (cf rfl) (c_KeptEntry' n.two (entA n a now) hent) (rs_of rfl) rfl rfl rfl (xm rfl rfl (xo (q_ext rfl) rfl (xo (q_ext rfl) rfl (evl_e (e_alloc ttOk rfl rfl rfl rfl) (xst ttOk rfl rfl (xs rfl rfl (nl (et (sq (sq (rg (xm rfl rfl (xo (q_not rfl) rfl (nl (et (ev_cond_n rfl (fun h2 => ?_) (fun h2 => ?_))))))))))))))))))))))))
  ·refine sq (ev_frz (cs := logC n) 3 rfl rfl rfl (fun HF6_0 hHF6_0 => ?_))
   refine ev_frz (cs := askC a) 4 rfl rfl rfl (fun HF6_1 hHF6_1 => ?_)
   refine ev_drawh mo (rdh_take 0 rfl kr trivial (q_loadH ttOk rfl rfl) rfl (rdh_take 1 rfl kr trivial (q_loadH ttOk rfl rfl) rfl (rdh_take 2 rfl kr trivial (q_gloadH ttOk rfl rfl rfl (rcell_mono hHF6_1 (rcell_mono hHF6_0 (rcell_heap9 hG.1 hHw))) hv1) rfl (rdh_2 3 6 kr ?_ ?_))))
   ·refine rdho_q rfl trivial (q_build ttOk rfl) rfl (rdh_2 4 6 kr ?_ ?_)
    ·refine rdho_eff rfl trivial (e_box rfl rfl rfl rfl) (rdh_2 5 6 kr ?_ ?_)
     ·refine rdho_q rfl trivial (q_mkib kr rfl) rfl (rdh_1 6 kr (rdho_eff rfl trivial (e_store ttOk rfl) (rdh_take 7 rfl kr trivial (QuietW.h (qw_assign rfl)) rfl (rdh_endq kr (et (ev_ret (evr_then ?_)))))))
      exact ret_pureE ttOk rfl rfl rfl
     ·refine rdho_eff rfl trivial (e_store ttOk rfl) (rdh_1 5 kr (rdho_q rfl trivial (q_mkib kr rfl) rfl (rdh_take 7 rfl kr trivial (QuietW.h (qw_assign rfl)) rfl (rdh_endq kr (et (ev_ret (evr_then ?_)))))))
      exact ret_pureE ttOk rfl rfl rfl
    ·refine rdho_eff rfl trivial (e_store ttOk rfl) (rdh_1 4 kr (rdho_eff rfl trivial (e_box rfl rfl rfl rfl) (rdh_1 5 kr (rdho_q rfl trivial (q_mkib kr rfl) rfl (rdh_take 7 rfl kr trivial (QuietW.h (qw_assign rfl)) rfl (rdh_endq kr (et (ev_ret (evr_then ?_)))))))))
     exact ret_pureE ttOk rfl rfl rfl
   ·refine rdho_eff rfl trivial (e_store ttOk rfl) (rdh_1 3 kr (rdho_q rfl trivial (q_build ttOk rfl) rfl (rdh_1 4 kr (rdho_eff rfl trivial (e_box rfl rfl rfl rfl) (rdh_1 5 kr (rdho_q rfl trivial (q_mkib kr rfl) rfl (rdh_take 7 rfl kr trivial (QuietW.h (qw_assign rfl)) rfl (rdh_endq kr (et (ev_ret (evr_then ?_)))))))))))
    exact ret_pureE ttOk rfl rfl rfl
  ·exact absurd hno (by unfold takesA; rw [h1, h2]; decide)
theorem asW_below (w : World) (e t : Addr) : Below w.heap.size w (asW w e t) := by
 refine Below.alloc (Below.alloc (Below.alloc (Below.alloc (Below.refl _ _) ?_ _) ?_ _) ?_ _) ?_ _ <;> simp <;> omega
theorem errW_keep {X : Cx} {S : St} {ρ : Rho} {a : Act} {w : World} {v : Value} (hs : Sim X ρ S a w) (hF : ∀ b ∈ X.F0, X.w0.heap.size ≤ b) (h : errW v X.w0) : errW v w := ⟨cell_keep hs hF h.1, cell_keep hs hF h.2.1, h.2.2⟩
theorem c_AskedOfNo (v : Value) (hv1 : v.oneCell' = true) (n : LogN) (a : Ask) (now : Int) (h1 : logOkF n = true) (h2 : askOkF a = true) (h3 : timeOk now = true) (h4 : a.seq > (findM n.seen a.client).seq) (hno : takesA n (entA n a now) = false) : PureW (errW v) Tryz.prog 16 [many (logC n), many (askC a), one (iC now)] [many' (logR (n)), one' (acksR [])] := by
 have cl := c_LogOk' n
 rw [logOk_same] at cl
 obtain ⟨hk, hh, hb, he1, he2⟩ := log_all h1
 have hsm := log_small h1
 have hso := of_sok (log_seen h1).2.2
 have hone : ∀ u ∈ ([.int .i64 a.client, .int .i64 a.seq, .int .i64 a.kind, .int .i64 a.a, .int .i64 a.b, .int .i64 a.c, .int .i64 a.d, v] : List Value), u.oneCell' = true := by
  intro u hu
  simp only [List.mem_cons, List.not_mem_nil, or_false] at hu
  rcases hu with rfl | rfl | rfl | rfl | rfl | rfl | rfl | rfl
  all_goals first | rfl | exact hv1
 refine pureW_intro (N := 97) Tryz.func16 rfl rfl rfl rfl (fun H w hG => ?_)
 have asH : ∀ (e t : Addr) (o : Value) (w : World), errW v w → w.cell? t = some o → w.frozen? t = false → Calls Tryz.prog 67 #[.iface 122 (.pointer (some e)), .iface 124 (.pointer (some t))] w fun ev w' => ev = .returned (.bool true) ∧ ∃ w1, Below w.heap.size w w1 ∧ w' = w1.setCell t (.pointer (some e)) :=
  fun e t o w hw h5 h6 => (as_hit e t o w hw.2.1 h5 h6).mono fun ev w' hp => ⟨hp.1, _, asW_below w e t, hp.2⟩
 have isH : ∀ (pb : Nat) (w : World), w.cell? ⟨pb, 7, none⟩ = some v → Calls Tryz.prog 68 #[.iface 122 (.pointer (some ⟨pb, 0, none⟩)), v] w fun ev w' => ev = .returned (.bool true) ∧ w' = w := by
  obtain ⟨eb, rfl⟩ := hG.2.2
  exact fun pb w h5 => is_hit pb eb w h5
 refine sq (rg (evl_e (e_box rfl rfl rfl rfl) (evl_e (e_box rfl rfl rfl rfl) (evl_e (e_alloc ttOk rfl rfl rfl rfl) (xs rfl rfl (nl (et (sq (sq (rg (xl ttOk rfl rfl (evl_call (nm := 14) (cf rfl) cl (rs_of rfl) rfl rfl rfl (xo (q_not rfl) rfl (nl (et (ev_cond_kf rfl (nf h1) (ev_skip (et (sq (rg (xl ttOk rfl rfl (evl_call (nm := 18) (cf rfl) (c_copyLog n h1) (rs_of rfl) rfl rfl rfl (evl_e (e_alloc ttOk rfl rfl rfl rfl) (xst ttOk rfl rfl (nl (et (sq (sq (rg (xl ttOk rfl rfl (evl_call (nm := 20) (cf rfl) (c_AskOk' a) (rs_of rfl) rfl rfl rfl (xo (q_not rfl) rfl (xm rfl rfl (gm (nf h2) rfl rfl rfl rfl (evl_callg rfl rfl (nf h2) (nm := 24) (cf rfl) (c_TimeOk' now) (rs_of rfl) rfl rfl rfl (go (nf h2) rfl rfl (q_not rfl) rfl (xo (q_pick_f rfl (nf h2) rfl) rfl (nl (et (ev_cond_kf rfl (nf h3) (ev_skip (et (sq (rg (xf ttOk rfl rfl (xl ttOk rfl rfl (xf ttOk rfl rfl (xl ttOk rfl rfl (evl_call (nm := 32) (cf rfl) (c_markOf n.seen a.client) (rs_of rfl) rfl rfl rfl (evl_e (e_alloc ttOk rfl rfl rfl rfl) ?_))))))))))))))))))))))))))))))))))))))))))))))))))
 refine xst ttOk rfl rfl (nl (et (sq (ev_blk (sq (rg (xf ttOk rfl rfl (xl ttOk rfl rfl (xf ttOk rfl rfl (xl ttOk rfl rfl (xb ttOk rfl rfl (xs rfl rfl (nl (et (ev_cond_kt rfl (decide_eq_true h4) (sq (rg (xl ttOk rfl rfl (xl ttOk rfl rfl (xm rfl rfl (evl_callE 1043 (cf rfl) (c_recNo v hv1 n a now h1 hno) (fun ρ a w hs => errW_keep hs (by simp) hG) hone (rs_of rfl) rfl rfl rfl (xm rfl rfl (xo (q_ext rfl) rfl (xo (q_ext rfl) rfl (evl_e (e_alloc ttOk rfl rfl rfl rfl) (xst ttOk rfl rfl (xs rfl rfl (nl (et (sq (rg (evl_e (e_alloc ttOk rfl rfl rfl rfl) (nl (et (sq (sq (rg (xm rfl rfl (xo (q_mkib kr rfl) rfl (evl_as (cf rfl) asH (fun ρ a w hs => errW_keep hs (by simp) hG) rfl rfl rfl rfl rfl (xm rfl rfl (go rfl rfl rfl (q_load ttOk rfl) rfl (go rfl rfl rfl (q_mkib kr rfl) rfl (go rfl rfl rfl (q_gload ttOk rfl rfl rfl hG.1 (by simp) hv1) rfl (evl_is (k := 7) rfl rfl rfl (cf rfl) isH rfl rfl rfl rfl rfl (xo (q_pick_t rfl rfl rfl) rfl (nl (et (ev_cond_kt rfl rfl (sq ?_))))))))))))))))))))))))))))))))))))))))))))))))))
 refine rg (xl ttOk rfl rfl (xst ttOk rfl rfl (xs rfl rfl (nl (et (ev_ret (evr_then (evr_blk (evr_then (ret_pureN ttOk rfl rfl ?_))))))))))
 simp [RpLe, L2, RcLe]; done
theorem c_AskedOfW (v : Value) (hv1 : v.oneCell' = true) (n : LogN) (a : Ask) (now : Int) : PureW (errW v) Tryz.prog 16 [many (logC n), many (askC a), one (iC now)] [many' (logR ((askedF n a now).1)), one' (acksR (askedF n a now).2)] := by
 by_cases hc : logOkF n = true ∧ askOkF a = true ∧ timeOk now = true ∧ a.seq > (findM n.seen a.client).seq ∧ takesA n (entA n a now) = false
 ·obtain ⟨h1, h2, h3, h4, h5⟩ := hc
  have e : askedF n a now = (n, []) := by
   rw [ak_fresh h1 h2 h3 h4]
   unfold freshLogF
   rw [h5]
   rfl
  rw [e]
  exact c_AskedOfNo v hv1 n a now h1 h2 h3 h4 h5
 ·refine (c_AskedOf1 n a now fun h1 h2 h3 h4 => ?_).w
  cases h5 : takesA n (entA n a now) with
  | true => rfl
  | false => exact absurd ⟨h1, h2, h3, h4, h5⟩ hc
theorem asked_sm (n : LogN) (a : Ask) (now : Int) : smL (askedF n a now).1 ∧ (askedF n a now).2.length ≤ 1048576 := by
 cases h : logOkF n
 ·rw [ak_no h]; exact ⟨zeroL_sm, by simp⟩
 ·have hsm := log_sm h
  cases h2 : askOkF a
  ·rw [ak_bad1 h h2]; exact ⟨hsm, by simp⟩
  ·cases h3 : timeOk now
   ·rw [ak_bad2 h h3]; exact ⟨hsm, by simp⟩
   ·rcases Int.lt_trichotomy (findM n.seen a.client).seq a.seq with hs | hs | hs
    ·rw [ak_fresh h h2 h3 hs]
     refine ⟨?_, by simp⟩
     show smL (freshLogF n a now)
     unfold freshLogF
     cases h5 : takesA n (entA n a now)
     ·exact hsm
     ·obtain ⟨s1, s2, s3, s4, s5⟩ := log_small h
      have hso := of_sok (log_seen h).2.2
      have h6 : (markedF n.seen (entA n a now)).1.length ≤ n.seen.length + 1 := by
       cases hf : freshF n.seen (entA n a now)
       ·rw [mk_no hso hf]; simp
       ·rw [mk_yes hso hf]; exact ins_len
      exact ⟨smT_ok (keptEntry_ok (log_all h).1), by show n.head.seen.length ≤ _; omega, by show n.next.seen.length ≤ _; omega, by show (n.book.entries ++ [_]).length ≤ _; simp; omega, by show (markedF n.seen (entA n a now)).1.length ≤ _; omega, by show (n.owe ++ [_]).length ≤ _; simp; omega⟩
    ·rcases Int.lt_or_le n.durable (findM n.seen a.client).index with h9 | h9
     ·rw [ak_wait h h2 h3 hs.symm h9]; exact ⟨hsm, by simp⟩
     ·rw [ak_told h h2 h3 hs.symm om]; exact ⟨hsm, by simp⟩
    ·rw [ak_old h h2 h3 hs]; exact ⟨hsm, by simp⟩
theorem t_ask (a : Ask) : Pure Tryz.prog 15 [many (askC a)] [many' ([.v (.int .i64 a.client), .v (.int .i64 a.seq), .v (.int .i64 a.kind), .v (.int .i64 a.a), .v (.int .i64 a.b), .v (.int .i64 a.c), .v (.int .i64 a.d)])] := by
 refine pure_intro (N := 15) Tryz.func15 rfl rfl rfl rfl (fun H w => ?_)
 refine sq (rg (evl_e (e_box rfl rfl rfl rfl) (evl_e (e_alloc ttOk rfl rfl rfl rfl) (nl (et (sq (rg (evl_e (e_alloc ttOk rfl rfl rfl rfl) (nl (et (sq (rg (xf ttOk rfl rfl (xl ttOk rfl rfl (xf ttOk rfl rfl (xst ttOk rfl rfl (nl (et (sq (rg (xf ttOk rfl rfl (xl ttOk rfl rfl (xf ttOk rfl rfl (xst ttOk rfl rfl (nl (et (sq (rg (xf ttOk rfl rfl (xl ttOk rfl rfl (evl_call (nm := 12) (cf rfl) (t_op _ _ _ _ _) (rs_of rfl) rfl rfl rfl (xf ttOk rfl rfl (xst ttOk rfl rfl (nl (et (sq (rg (xl ttOk rfl rfl (xst ttOk rfl rfl (nl (et (ev_ret (ret_pure' ttOk rfl rfl ?_)))))))))))))))))))))))))))))))))))))))))))
 rfl
attribute [local irreducible] q2 q3 q4 q5 q6 q7
theorem L_AskedOf (v : Value) (hv1 : v.oneCell' = true) (n : LogN) (a : Ask) (x : Int) : PureW (errW v) Tryz.prog 3 [many (logC n), many (askC a), one (iC x)] (bR true) := by
 refine pureW_intro (N := 125) Tryz.func3 rfl rfl rfl rfl (fun H w hG => ?_)
 refine sq (rg (evl_e (e_box rfl rfl rfl rfl) (evl_e (e_box rfl rfl rfl rfl) (xs rfl rfl (nl (et (sq (rg (xs rfl rfl (nl (et (sq (rg (xl ttOk rfl rfl (xm rfl rfl (evl_call (nm := 20) (cf rfl) (z_log n _ om) (rs_of rfl) rfl rfl rfl (xs rfl rfl (nl (et (sq (sq (rg (xm rfl rfl (xb ttOk rfl rfl (nl (et (ev_cond rfl (fun h1 => ?_) (fun h1 => ?_))))))))))))))))))))))))))))
 ·have d1 := of_decide_eq_true h1
  refine sq (rg (xs rfl rfl (nl (et (ev_ret (evr_then (ret_pure' ttOk rfl rfl ?_)))))))
  rfl
 ·have d1 := of_decide_eq_false h1
  have e1 := szB_pos d1
  have hT : logSz n ≤ 1048576 := by omega
  have hsm := smL_of hT
  have hq7 := q_at (q := 1) (n := n) om hsm
  have hs9 := asked_sm n a x
  have c1 := c_AskedOf n a x
  have c2 := c_AskedOfW v hv1 n a x
  have hsmr := hs9.1
  have hsms := hs9.2
  generalize (askedF n a x).1 = r at c1 c2 hsmr
  generalize (askedF n a x).2 = s at c1 c2 hsms
  have hq9r := q_at (q := 1) (n := r) om hsmr
  have hq9s := hsms
  refine ev_skip (et (sq (ev_dd rfl ?_)))
  refine' ev_draw [10] mo ?hdr1 ?kdr1
  case hdr1 =>
   refine rk0 0 rfl (q_load ttOk rfl) rfl (rk0 2 rfl (q_load ttOk rfl) rfl (rk0 4 rfl (q_move rfl) rfl (rdk_two 1 9 kr ?_ ?_)))
   ·refine rdo_call (nm := 25) rfl trivial (cf rfl) (t_log n ‹_›) (rs_of rfl) rfl rfl rfl (rdk_two 3 9 kr ?_ ?_)
    ·refine rdo_call (nm := 27) rfl trivial (cf rfl) (t_ask a) (rs_of rfl) rfl rfl rfl (rdk_two 5 9 kr ?_ ?_)
     ·refine rdo_call (nm := 29) rfl trivial (cf rfl) c1 (rs_of rfl) rfl rfl rfl (rk0 6 rfl (q_move rfl) rfl (rk0 7 rfl (q_ext rfl) rfl (rdk_pure 8 rfl kr trivial (qw_ext rfl) rfl (rdk_one 9 kr (rdo_new rfl trivial (e_alloc ttOk rfl rfl rfl rfl) (rdk_one 10 kr (rdo_brk rfl rfl trivial (e_store ttOk rfl) (rdb_q 11 rfl kr trivial (q_assign rfl) rfl ?_))))))))
      exact rdb_fin kr
     ·refine rdo_new rfl trivial (e_alloc ttOk rfl rfl rfl rfl) (rdk_one 5 kr (rdo_call (nm := 29) rfl trivial (cf rfl) c1 (rs_of rfl) rfl rfl rfl (rk0 6 rfl (q_move rfl) rfl (rk0 7 rfl (q_ext rfl) rfl (rdk_pure 8 rfl kr trivial (qw_ext rfl) rfl (rdk_one 10 kr (rdo_brk rfl rfl trivial (e_store ttOk rfl) (rdb_q 11 rfl kr trivial (q_assign rfl) rfl ?_))))))))
      exact rdb_le [] kr lei
    ·refine rdo_new rfl trivial (e_alloc ttOk rfl rfl rfl rfl) (rdk_one 3 kr (rdo_call (nm := 27) rfl trivial (cf rfl) (t_ask a) (rs_of rfl) rfl rfl rfl (rdk_one 5 kr (rdo_call (nm := 29) rfl trivial (cf rfl) c1 (rs_of rfl) rfl rfl rfl (rk0 6 rfl (q_move rfl) rfl (rk0 7 rfl (q_ext rfl) rfl (rdk_pure 8 rfl kr trivial (qw_ext rfl) rfl (rdk_one 10 kr (rdo_brk rfl rfl trivial (e_store ttOk rfl) (rdb_q 11 rfl kr trivial (q_assign rfl) rfl ?_))))))))))
     exact rdb_le [] kr lei
   ·refine rdo_new rfl trivial (e_alloc ttOk rfl rfl rfl rfl) (rdk_one 1 kr (rdo_call (nm := 25) rfl trivial (cf rfl) (t_log n ‹_›) (rs_of rfl) rfl rfl rfl (rdk_one 3 kr (rdo_call (nm := 27) rfl trivial (cf rfl) (t_ask a) (rs_of rfl) rfl rfl rfl (rdk_one 5 kr (rdo_call (nm := 29) rfl trivial (cf rfl) c1 (rs_of rfl) rfl rfl rfl (rk0 6 rfl (q_move rfl) rfl (rk0 7 rfl (q_ext rfl) rfl (rdk_pure 8 rfl kr trivial (qw_ext rfl) rfl (rdk_one 10 kr (rdo_brk rfl rfl trivial (e_store ttOk rfl) (rdb_q 11 rfl kr trivial (q_assign rfl) rfl ?_))))))))))))
    exact rdb_le [] kr lei
  refine et (sq (rg (xl ttOk rfl rfl (evl_call (nm := 33) (cf rfl) (t_log n ‹_›) (rs_of rfl) rfl rfl rfl (evl_e (e_alloc ttOk rfl rfl rfl rfl) (xst ttOk rfl rfl (nl (et (sq (ev_dd rfl ?_))))))))))
  refine' ev_draw [9] mo ?hdr2 ?kdr2
  case hdr2 =>
   refine rk0 0 rfl (q_load ttOk rfl) rfl (rk0 1 rfl (q_load ttOk rfl) rfl (rk0 3 rfl (q_move rfl) rfl (rdk_two 2 8 kr ?_ ?_)))
   ·refine rdo_call (nm := 37) rfl trivial (cf rfl) (t_ask a) (rs_of rfl) rfl rfl rfl (rdk_two 4 8 kr ?_ ?_)
    ·refine rdo_callW (nm := 39) rfl trivial (cf rfl) (fun ρ a w hs => errW_keep hs (by simp) hG) c2 (rs_of rfl) rfl rfl rfl (rk0 5 rfl (q_move rfl) rfl (rk0 6 rfl (q_ext rfl) rfl (rdk_pure 7 rfl kr trivial (qw_ext rfl) rfl (rdk_one 8 kr (rdo_new rfl trivial (e_alloc ttOk rfl rfl rfl rfl) (rdk_one 9 kr (rdo_brk rfl rfl trivial (e_store ttOk rfl) (rdb_q 10 rfl kr trivial (q_assign rfl) rfl ?_))))))))
     exact rdb_fin kr
    ·refine rdo_new rfl trivial (e_alloc ttOk rfl rfl rfl rfl) (rdk_one 4 kr (rdo_callW (nm := 39) rfl trivial (cf rfl) (fun ρ a w hs => errW_keep hs (by simp) hG) c2 (rs_of rfl) rfl rfl rfl (rk0 5 rfl (q_move rfl) rfl (rk0 6 rfl (q_ext rfl) rfl (rdk_pure 7 rfl kr trivial (qw_ext rfl) rfl (rdk_one 9 kr (rdo_brk rfl rfl trivial (e_store ttOk rfl) (rdb_q 10 rfl kr trivial (q_assign rfl) rfl ?_))))))))
     exact rdb_le [] kr lei
   ·refine rdo_new rfl trivial (e_alloc ttOk rfl rfl rfl rfl) (rdk_one 2 kr (rdo_call (nm := 37) rfl trivial (cf rfl) (t_ask a) (rs_of rfl) rfl rfl rfl (rdk_one 4 kr (rdo_callW (nm := 39) rfl trivial (cf rfl) (fun ρ a w hs => errW_keep hs (by simp) hG) c2 (rs_of rfl) rfl rfl rfl (rk0 5 rfl (q_move rfl) rfl (rk0 6 rfl (q_ext rfl) rfl (rdk_pure 7 rfl kr trivial (qw_ext rfl) rfl (rdk_one 9 kr (rdo_brk rfl rfl trivial (e_store ttOk rfl) (rdb_q 10 rfl kr trivial (q_assign rfl) rfl ?_))))))))))
    exact rdb_le [] kr lei
  refine et (ev_pr [2, 3, 4, 6, 8, 9, 10, 11, 12, 13, 14, 15, 16, 17, 42, 43, 44, 45, 46, 47, 48, 49, 50, 51, 52, 53, 54, 55, 56, 57, 58, 59, 60, 61, 62, 63, 64, 65, 66, 67, 68, 69, 70, 71, 72, 73, 74, 75, 76, 77, 78, 79, 80, 81, 82, 83, 84, 85, 86, 87, 88, 89, 90, 91, 92, 93, 94, 95, 96, 97, 98, 99, 100, 101, 102, 103, 104, 105, 106, 107, 108, 109, 110, 111, 112, 113, 114, 115, 116, 117, 118, 119, 120, 121, 122, 123, 124] rfl (sq (sq (rg (xl ttOk rfl rfl (xl ttOk rfl rfl ?_))))))
  first | refine evl_call (nm := 44) (cf rfl) (e_log n) (rs_of rfl) rfl rfl rfl ?_ | refine evl_call (nm := 44) (cf rfl) (e_log r) (rs_of rfl) rfl rfl rfl ?_
  refine xo (q_notL rfl) rfl (xm rfl rfl (gm rfl rfl rfl rfl rfl (gm rfl rfl rfl rfl rfl (evl_callg rfl rfl rfl (nm := 49) (cf rfl) (e_acks s) (rs_of rfl) rfl rfl rfl (go rfl rfl rfl (q_notL rfl) rfl (xo (q_pick_f rfl rfl rfl) rfl (nl (et (ev_cond_kf rfl rfl (ev_skip (et (sq (sq (ev_drawq [] mo (rk0 0 rfl (q_load ttOk rfl) rfl (rk0 1 rfl (q_load ttOk rfl) rfl (rdk_one 2 kr (rdo_call (nm := 54) rfl trivial (cf rfl) (t_log n ‹_›) (rs_of rfl) rfl rfl rfl (rdk_one 3 kr ?_)))))))))))))))))))
  first | refine rdo_call (nm := 55) rfl trivial (cf rfl) (e_log n) (rs_of rfl) rfl rfl rfl ?_ | refine rdo_call (nm := 55) rfl trivial (cf rfl) (e_log r) (rs_of rfl) rfl rfl rfl ?_
  refine rk0 4 rfl (q_notL rfl) rfl (rdk_endq kr (et (ev_cond_kf rfl rfl (ev_skip (et (sq (rg (xs rfl rfl (nl (et (sq (rg (xl ttOk rfl rfl (xm rfl rfl ?_))))))))))))))
  first | refine evl_mark (cf rfl) rfl rfl rfl (m_log _ _ _ _ _ _ _ _ _ n 1 om hsm) rfl rfl rfl ?_ | refine evl_mark (cf rfl) rfl rfl rfl (m_log _ _ _ _ _ _ _ _ _ r 1 om hsmr) rfl rfl rfl ?_
  refine xs rfl rfl (nl (et (sq (sq (rg (xm rfl rfl (xb ttOk rfl rfl (xm rfl rfl (go (decide_eq_false om) rfl rfl (q_load ttOk rfl) rfl (go (decide_eq_false om) rfl rfl (q_load ttOk rfl) rfl ?_))))))))))
  first | refine evl_callg rfl rfl (decide_eq_false om) (nm := 65) (cf rfl) (e_log n) (rs_of rfl) rfl rfl rfl ?_ | refine evl_callg rfl rfl (decide_eq_false om) (nm := 65) (cf rfl) (e_log r) (rs_of rfl) rfl rfl rfl ?_
  refine go (decide_eq_false om) rfl rfl (q_notL rfl) rfl (xo (q_pick_f rfl (decide_eq_false om) rfl) rfl (xm rfl rfl (gm rfl rfl rfl rfl rfl (gm rfl rfl rfl rfl rfl (evl_callg rfl rfl rfl (nm := 71) (cf rfl) (e_acks s) (rs_of rfl) rfl rfl rfl (go rfl rfl rfl (q_notL rfl) rfl (xo (q_pick_f rfl rfl rfl) rfl (nl (et (ev_cond_kf rfl rfl (ev_skip (et (ev_pr [2, 3, 4, 6, 8, 9, 11, 12, 14, 15, 16, 17, 74, 75, 76, 77, 78, 79, 80, 81, 82, 83, 84, 85, 86, 87, 88, 89, 90, 91, 92, 93, 94, 95, 96, 97, 98, 99, 100, 101, 102, 103, 104, 105, 106, 107, 108, 109, 110, 111, 112, 113, 114, 115, 116, 117, 118, 119, 120, 121, 122, 123, 124] rfl (sq (rg (xs rfl rfl (nl (et (sq (rg (xl ttOk rfl rfl (xm rfl rfl ?_))))))))))))))))))))))
  first | refine evl_mark (cf rfl) rfl rfl rfl (m_log _ _ _ _ _ _ _ _ _ n 1 om hsm) rfl rfl rfl ?_ | refine evl_mark (cf rfl) rfl rfl rfl (m_log _ _ _ _ _ _ _ _ _ r 1 om hsmr) rfl rfl rfl ?_
  refine xs rfl rfl (nl (et (sq (rg (xm rfl rfl (xm rfl rfl (evl_mark (cf rfl) rfl rfl rfl (m_acks _ s (q7 1 r) om) rfl rfl rfl (xs rfl rfl (nl (et (sq (rg (xs rfl rfl (nl (et (sq (rg (xl ttOk rfl rfl (xm rfl rfl (evl_call (nm := 82) (cf rfl) (h_log r 1 _ rfl om hsmr) (rs_of rfl) rfl rfl rfl (xs rfl rfl (nl (et (sq (sq (rg (xm rfl rfl (xb ttOk rfl rfl (nl (et (ev_cond_kf rfl (decide_eq_false om) (ev_skip (et (sq (rg (xm rfl rfl (xm rfl rfl (evl_call (nm := 87) (cf rfl) (h_acks s.length (q7 1 r) _ rfl om) (rs_of rfl) rfl rfl rfl (xs rfl rfl (nl (et (sq (sq (rg (xm rfl rfl (xb ttOk rfl rfl (nl (et (ev_cond_kf rfl (decide_eq_false om) (ev_skip ?_))))))))))))))))))))))))))))))))))))))))))))))))))
  refine et (sq (sq (rg (xm rfl rfl (xm rfl rfl (xb ttOk rfl rfl (nl (et (ev_cond_kf rfl (decide_eq_false om) (ev_skip (et (ev_pr [2, 3, 4, 6, 8, 9, 11, 12, 14, 15, 16, 17, 93, 94, 95, 96, 97, 98, 99, 100, 101, 102, 103, 104, 105, 106, 107, 108, 109, 110, 111, 112, 113, 114, 115, 116, 117, 118, 119, 120, 121, 122, 123, 124] rfl (sq (ev_dd rfl ?_))))))))))))))
  refine' ev_draw [10] mo ?hdr3 ?kdr3
  case hdr3 =>
   refine rk0 0 rfl (q_load ttOk rfl) rfl (rk0 2 rfl (q_load ttOk rfl) rfl (rk0 4 rfl (q_move rfl) rfl (rdk_two 1 9 kr ?_ ?_)))
   ·refine rdo_call (nm := 95) rfl trivial (cf rfl) (t_log n ‹_›) (rs_of rfl) rfl rfl rfl (rdk_two 3 9 kr ?_ ?_)
    ·refine rdo_call (nm := 97) rfl trivial (cf rfl) (t_ask a) (rs_of rfl) rfl rfl rfl (rdk_two 5 9 kr ?_ ?_)
     ·refine rdo_callW (nm := 99) rfl trivial (cf rfl) (fun ρ a w hs => errW_keep hs (by simp) hG) c2 (rs_of rfl) rfl rfl rfl (rk0 6 rfl (q_move rfl) rfl (rk0 7 rfl (q_ext rfl) rfl (rdk_pure 8 rfl kr trivial (qw_ext rfl) rfl (rdk_one 9 kr (rdo_new rfl trivial (e_alloc ttOk rfl rfl rfl rfl) (rdk_one 10 kr (rdo_brk rfl rfl trivial (e_store ttOk rfl) (rdb_q 11 rfl kr trivial (q_assign rfl) rfl ?_))))))))
      exact rdb_fin kr
     ·refine rdo_new rfl trivial (e_alloc ttOk rfl rfl rfl rfl) (rdk_one 5 kr (rdo_callW (nm := 99) rfl trivial (cf rfl) (fun ρ a w hs => errW_keep hs (by simp) hG) c2 (rs_of rfl) rfl rfl rfl (rk0 6 rfl (q_move rfl) rfl (rk0 7 rfl (q_ext rfl) rfl (rdk_pure 8 rfl kr trivial (qw_ext rfl) rfl (rdk_one 10 kr (rdo_brk rfl rfl trivial (e_store ttOk rfl) (rdb_q 11 rfl kr trivial (q_assign rfl) rfl ?_))))))))
      exact rdb_le [] kr lei
    ·refine rdo_new rfl trivial (e_alloc ttOk rfl rfl rfl rfl) (rdk_one 3 kr (rdo_call (nm := 97) rfl trivial (cf rfl) (t_ask a) (rs_of rfl) rfl rfl rfl (rdk_one 5 kr (rdo_callW (nm := 99) rfl trivial (cf rfl) (fun ρ a w hs => errW_keep hs (by simp) hG) c2 (rs_of rfl) rfl rfl rfl (rk0 6 rfl (q_move rfl) rfl (rk0 7 rfl (q_ext rfl) rfl (rdk_pure 8 rfl kr trivial (qw_ext rfl) rfl (rdk_one 10 kr (rdo_brk rfl rfl trivial (e_store ttOk rfl) (rdb_q 11 rfl kr trivial (q_assign rfl) rfl ?_))))))))))
     exact rdb_le [] kr lei
   ·refine rdo_new rfl trivial (e_alloc ttOk rfl rfl rfl rfl) (rdk_one 1 kr (rdo_call (nm := 95) rfl trivial (cf rfl) (t_log n ‹_›) (rs_of rfl) rfl rfl rfl (rdk_one 3 kr (rdo_call (nm := 97) rfl trivial (cf rfl) (t_ask a) (rs_of rfl) rfl rfl rfl (rdk_one 5 kr (rdo_callW (nm := 99) rfl trivial (cf rfl) (fun ρ a w hs => errW_keep hs (by simp) hG) c2 (rs_of rfl) rfl rfl rfl (rk0 6 rfl (q_move rfl) rfl (rk0 7 rfl (q_ext rfl) rfl (rdk_pure 8 rfl kr trivial (qw_ext rfl) rfl (rdk_one 10 kr (rdo_brk rfl rfl trivial (e_store ttOk rfl) (rdb_q 11 rfl kr trivial (q_assign rfl) rfl ?_))))))))))))
    exact rdb_le [] kr lei
  refine et (sq (sq (rg (xl ttOk rfl rfl (xl ttOk rfl rfl ?_)))))
  first | refine evl_call (nm := 104) (cf rfl) (e_log n) (rs_of rfl) rfl rfl rfl ?_ | refine evl_call (nm := 104) (cf rfl) (e_log r) (rs_of rfl) rfl rfl rfl ?_
  refine xo (q_notL rfl) rfl (xm rfl rfl (gm rfl rfl rfl rfl rfl (gm rfl rfl rfl rfl rfl (evl_callg rfl rfl rfl (nm := 109) (cf rfl) (e_acks s) (rs_of rfl) rfl rfl rfl (go rfl rfl rfl (q_notL rfl) rfl (xo (q_pick_f rfl rfl rfl) rfl (nl (et (ev_cond_kf rfl rfl (ev_skip (et (sq (rg (xs rfl rfl (nl (et (sq (rg (xl ttOk rfl rfl (xm rfl rfl (evl_call (nm := 114) (cf rfl) (h_log r 1 _ rfl om hsmr) (rs_of rfl) rfl rfl rfl (xs rfl rfl (nl (et (ev_pr [6, 12, 14, 15, 115, 116, 117, 118, 119, 120, 121, 122, 123, 124] rfl (sq (sq (rg (xm rfl rfl (xb ttOk rfl rfl (nl (et (ev_cond_kf rfl (decide_eq_false om) (ev_skip (et (sq (rg (xm rfl rfl (xm rfl rfl (evl_call (nm := 119) (cf rfl) (h_acks s.length (q7 1 r) _ rfl om) (rs_of rfl) rfl rfl rfl (xs rfl rfl (nl (et (sq (sq (rg (xm rfl rfl (xb ttOk rfl rfl (nl (et ?_))))))))))))))))))))))))))))))))))))))))))))))))))
  refine ev_cond_kf rfl (decide_eq_false om) (ev_skip (et (sq (sq (rg (xm rfl rfl (xm rfl rfl (xb ttOk rfl rfl (nl (et (ev_cond_kf rfl (decide_eq_false om) (ev_skip (et (sq (rg (xs rfl rfl (nl (et (ev_ret (ret_pure' ttOk rfl rfl ?_))))))))))))))))))))
  rfl
end Go.Proofs.YtinmcdcmidlgpaaGreatDoor
namespace Go.Proofs.YtinmcdcmidlgpaaGreatDoor
open Go.ChangeShapes Go.WideShapes Go.ChangeAt Go.RowKit
set_option linter.unusedVariables false
set_option linter.unusedSimpArgs false
set_option maxHeartbeats 1000000
set_option maxRecDepth 100000
attribute [local irreducible] EvL Ev EvE Quiet Eff Pure RDk RDb RDo
theorem lw_et : Tryz.prog.globalNamed "errors.errorType" = some 1 := by kernel_rfl
theorem lw_full : Tryz.prog.globalNamed "loop.example/g00851/impl.errFull" = some 0 := by kernel_rfl
theorem lw_fullT : (Tryz.prog.globals[0]?).map (·.type) = some 119 := by kernel_rfl
theorem lw_rt : (Tryz.prog.cutTypes.find? (·.1 == "internal/reflectlite.rtype")).map (·.2) = some 239 := by kernel_rfl
theorem lw_oneRow : ((List.range Tryz.prog.types.size).filter fun t => Tryz.prog.rowNamed t [101, 114, 114, 111, 114]) = [119] := by kernel_rfl
theorem lw_cells1 : Tryz.prog.cellsOf 307 = 1 := by kernel_rfl
theorem lw_cells2 : Tryz.prog.cellsOf 9 = 1 := by kernel_rfl
theorem lw_star : "*" ++ "errors.errorString" = "*errors.errorString" := by decide
theorem lw_row (u : TypeId) (h : Tryz.prog.typeName? 3 u = some "*errors.errorString") : u = 285 :=
 typeName_ptr_named (nm := "errors.errorString") (by rw [lw_star]; kernel_rfl) kr (by decide) u (by rw [lw_star]; exact h)
theorem errW_of_laid {W : World} (h : laidMetH Tryz.prog [("errors.errorType", Rows.laid_errors_errorType), ("loop.example/g00851/impl.errFull", Rows.laid_loop_example_g00851_impl_errFull)] W) : ∃ v : Value, v.oneCell' = true ∧ errW v W := by
 have h' : laidMet Tryz.prog [("loop.example/g00851/impl.errFull", Rows.laid_loop_example_g00851_impl_errFull)] W ∧ handlesMet Tryz.prog [("errors.errorType", Rows.laid_errors_errorType)] W := h
 obtain ⟨name, u, ty, e1, e2, e3, e4, e5⟩ := h'.2 _ (List.mem_singleton.2 rfl)
 have en : name = [101, 114, 114, 111, 114] := (Option.some.inj e1).symm
 subst en
 obtain rfl := Option.some.inj (lw_rt.symm.trans e2)
 have hm : ty ∈ (List.range Tryz.prog.types.size).filter fun t => Tryz.prog.rowNamed t [101, 114, 114, 111, 114] := List.mem_filter.2 ⟨List.mem_range.2 e3, e4⟩
 rw [lw_oneRow] at hm
 obtain rfl := List.mem_singleton.1 hm
 have hh : typeHandle Tryz.prog 119 = .pointer (some ⟨2, 119, none⟩) := by kernel_rfl
 rw [hh] at e5
 have c1 : W.cell? ⟨1, 0, none⟩ = some (.iface 239 (.agg #[.pointer (some ⟨2, 119, none⟩)])) := by simpa using World.var?_cell lw_et e5 0
 obtain ⟨ps, ⟨g0, t0, cs0, f0, p0, q0, hg0, ht0, hv0, hd0, hq, e0⟩, hnd, hrows⟩ := h'.1
 obtain rfl := Option.some.inj (lw_full.symm.trans hg0)
 obtain rfl := Option.some.inj (lw_fullT.symm.trans ht0)
 have hq : q0 = [] := hq
 subst hq
 subst e0
 obtain ⟨l0⟩ := cs0
 have ok0 : ∀ u v, l0 = [.iface u v] → Value.okWide Tryz.prog W .any 0 u v := fun u v e => by
  subst e
  exact (hrows 0 0 (by simp [MemPlace.row])).2 u v (by simpa using World.var?_cell lw_full hv0 0)
 obtain ⟨a0, s0, rfl, _⟩ := errorString_of_trod Tryz.underlying119 lw_row Tryz.underlying285 Tryz.underlying307 rfl rfl Tryz.underlying9 lw_cells1 lw_cells2 hd0 ok0
 exact ⟨.iface 285 (.pointer (some a0)), rfl, by simpa using World.var?_cell lw_full hv0 0, c1, a0, rfl⟩
def PureAt (P : Program) (f : FuncId) (args : List (Bool × List C)) (W : World) : Prop := ∀ vs : List Value, L2 (Pc fun b => W.heap[b]?) args vs → Calls P f vs.toArray W fun e w' => e = .returned (.bool true) ∧ Below W.heap.size W w'
theorem PureAt.law {P : Program} {f : FuncId} {args : List (Bool × List C)} {W : World} (h : PureAt P f args W) (_ : World) (vs : List Value) (hv : L2 (Pc fun b => W.heap[b]?) args vs) : Calls P f vs.toArray W fun e w' => e = .returned (.bool true) ∧ Below W.heap.size W w' := h vs hv
theorem law_at {f : FuncId} {args : List (Bool × List C)} {W : World} (hL : laidMetH Tryz.prog [("errors.errorType", Rows.laid_errors_errorType), ("loop.example/g00851/impl.errFull", Rows.laid_loop_example_g00851_impl_errFull)] W) (h : ∀ v : Value, v.oneCell' = true → PureW (errW v) Tryz.prog f args (bR true)) : PureAt Tryz.prog f args W := by
 obtain ⟨v, hv1, hev⟩ := errW_of_laid hL
 intro vs hv
 refine (h v hv1 _ W vs hev (fun _ _ h => h) hv).mono fun e w' ⟨us, F, he, ho, _, _, hb⟩ => ?_
 match us, ho with
 | [u], ⟨F1, F2, ⟨us', e1, e2, e3⟩, _, _⟩ =>
  have e2' := e2 rfl
  match us', e3, e2' with
  | [x], h3, _ =>
   obtain ⟨G1, G2, ⟨⟨h4, _⟩, _⟩, _, _⟩ := h3
   exact ⟨by rw [he, e1]; exact congrArg Ending.returned h4, hb⟩
end Go.Proofs.YtinmcdcmidlgpaaGreatDoor
