/- Walks of functions of the program, printed by a program of the prover. -/
import Derived.Test.YtinmcdcmidlgpaaGreatDoorAkF51
import Derived.Test.YtinmcdcmidlgpaaGreatDoorAkVL
namespace Go.Proofs.YtinmcdcmidlgpaaGreatDoor
open Go.ChangeShapes Go.WideShapes Go.ChangeAt Go.RowKit
set_option linter.unusedVariables false
set_option linter.unusedSimpArgs false
set_option maxHeartbeats 1000000
set_option maxRecDepth 100000
attribute [local irreducible] EvL Ev EvE Quiet Eff Pure RDk RDb RDo
structure Ask where
 client : Int
 seq : Int
 kind : Int
 a : Int
 b : Int
 c : Int
 d : Int
@[reducible] def askC (a : Ask) : List C := [iC a.client, iC a.seq, iC a.kind, iC a.a, iC a.b, iC a.c, iC a.d]
def askOkF (a : Ask) : Bool := askerOk a.client && (seqOk a.seq && opOk a.kind a.a a.b a.c a.d)
def entA (n : LogN) (a : Ask) (now : Int) : Entry := ⟨lastB n.book + 1, max now (timeB n.book), a.client, a.seq, a.kind, a.a, a.b, a.c, a.d⟩
def keptEntryF (t : Two) (e : Entry) : Two × Bool := if keptOk t then if entryOk e then bothWroteF t (slotF e.index) (slotRowF e) else (t, false) else (zeroT, false)
theorem ke_no {t : Two} {e : Entry} (h : keptOk t = false) : keptEntryF t e = (zeroT, false) := by simp [keptEntryF, h]
theorem ke_yes {t : Two} {e : Entry} (h : keptOk t = true) (he : entryOk e = true) : keptEntryF t e = bothWroteF t (slotF e.index) (slotRowF e) := by simp [keptEntryF, h, he]
theorem slotRow_ne {e : Entry} (h : entryOk e = true) : slotRowF e ≠ [] := by
 rw [slotRow_yes h]
 simp [Entry.nums]
theorem keptEntry_ok {t : Two} {e : Entry} (hk : keptOk t = true) : twoOk (keptEntryF t e).1 = true := by
 have ht := (keptOk_iff.1 hk).1
 unfold keptEntryF
 rw [hk]
 simp only [if_true]
 split
 ·exact both_ok ht
 ·exact ht
def withE (n : LogN) (e : Entry) : LogN := ⟨(keptEntryF n.two e).1, n.head, n.next, n.more, appF n.book e, (markedF n.seen e).1, n.durable, n.owe ++ [ackF e]⟩
def takesA (n : LogN) (e : Entry) : Bool := fitsF n.book e && (keptEntryF n.two e).2
def freshLogF (n : LogN) (a : Ask) (now : Int) : LogN := if takesA n (entA n a now) then withE n (entA n a now) else n
theorem fr_no1 {n : LogN} {a : Ask} {now : Int} (h : fitsF n.book (entA n a now) = false) : freshLogF n a now = n := by simp [freshLogF, takesA, h]
theorem fr_no2 {n : LogN} {a : Ask} {now : Int} (h : (keptEntryF n.two (entA n a now)).2 = false) : freshLogF n a now = n := by simp [freshLogF, takesA, h]
theorem fr_yes {n : LogN} {a : Ask} {now : Int} (h : fitsF n.book (entA n a now) = true) (h2 : (keptEntryF n.two (entA n a now)).2 = true) : freshLogF n a now = withE n (entA n a now) := by simp [freshLogF, takesA, h, h2]
theorem book_time {b : Book} (hb : bookOk b = true) : timeOk (timeB b) = true := by
 have hbd := book_bd hb
 cases hl : b.entries.length with
 | zero => rw [timeB_nil hl]; exact hbd.2.2.2.1
 | succ m =>
  rw [timeB_last hl]
  have := ents_ok hbd.2.2.2.2 _ (List.getElem_mem (show m < b.entries.length by omega))
  simp only [entryOk, Bool.and_eq_true] at this
  exact this.2.1
theorem entA_ok {n : LogN} {a : Ask} {now : Int} (hb : bookOk n.book = true) (ha : askOkF a = true) (hn : timeOk now = true) (h : lastB n.book < 2000) : entryOk (entA n a now) = true := by
 simp only [askOkF, Bool.and_eq_true] at ha
 have h1 := book_last hb
 have h2 := inB_iff.1 (book_time hb)
 have h3 := inB_iff.1 hn
 have h4 : timeOk (max now (timeB n.book)) = true := inB_iff.2 ⟨by omega, by omega⟩
 have h5 : indexOk (lastB n.book + 1) = true := inB_iff.2 ⟨by omega, by omega⟩
 simp only [entA, entryOk, h4, h5, ha.1, ha.2.1, ha.2.2, Bool.and_self]
theorem entA_fits {n : LogN} {a : Ask} {now : Int} (hb : bookOk n.book = true) (ha : askOkF a = true) (hn : timeOk now = true) (h : lastB n.book < 2000) (h2 : n.book.entries.length < 20) : fitsF n.book (entA n a now) = true :=
 fits_iff.2 ⟨entA_ok hb ha hn h, rfl, by show max now (timeB n.book) ≥ timeB n.book; omega, h2⟩
theorem book_last2 {b : Book} (hb : bookOk b = true) : lastB b ≤ 2000 := by
 cases hl : b.entries.length with
 | zero => have := book_bd hb; unfold lastB; omega
 | succ m =>
  have hm : m < b.entries.length := by omega
  have h1 := ent_ix hb m hm
  have h2 := entry_ix (ents_ok (book_bd hb).2.2.2.2 _ (List.getElem_mem hm))
  unfold lastB
  omega
theorem fits_len {b : Book} {e : Entry} (h : b.entries.length = 20) : fitsF b e = false := by
 have : ¬ b.entries.length < 20 := by omega
 simp [fitsF, this]
theorem fits_last {b : Book} {e : Entry} (h : lastB b = 2000) : fitsF b e = false := by
 cases hf : fitsF b e with
 | false => rfl
 | true =>
  have h1 := fits_iff.1 hf
  have h2 := entry_ix h1.1
  omega
def askedF (n : LogN) (a : Ask) (now : Int) : LogN × List Ack :=
 if logOkF n then
  if askOkF a && timeOk now then
   if (findM n.seen a.client).seq < a.seq then (freshLogF n a now, [])
   else if a.seq < (findM n.seen a.client).seq then (n, [⟨a.client, a.seq, 0, (findM n.seen a.client).seq⟩])
   else if n.durable < (findM n.seen a.client).index then (n, []) else (n, [⟨a.client, a.seq, (findM n.seen a.client).index, (findM n.seen a.client).seq⟩])
  else (n, [])
 else (zeroL, [])
section
variable {n : LogN} {a : Ask} {now : Int}
theorem ak_no (h : logOkF n = false) : askedF n a now = (zeroL, []) := by simp [askedF, h]
theorem ak_bad1 (h : logOkF n = true) (h2 : askOkF a = false) : askedF n a now = (n, []) := by simp [askedF, h, h2]
theorem ak_bad2 (h : logOkF n = true) (h2 : timeOk now = false) : askedF n a now = (n, []) := by simp [askedF, h, h2]
theorem ak_fresh (h : logOkF n = true) (h2 : askOkF a = true) (h3 : timeOk now = true) (h4 : a.seq > (findM n.seen a.client).seq) : askedF n a now = (freshLogF n a now, []) := by
 have h5 : (findM n.seen a.client).seq < a.seq := h4
 simp [askedF, h, h2, h3, h5]
theorem ak_old (h : logOkF n = true) (h2 : askOkF a = true) (h3 : timeOk now = true) (h4 : a.seq < (findM n.seen a.client).seq) : askedF n a now = (n, [⟨a.client, a.seq, 0, (findM n.seen a.client).seq⟩]) := by
 have h5 : ¬ (findM n.seen a.client).seq < a.seq := by omega
 simp [askedF, h, h2, h3, h5, h4]
theorem ak_wait (h : logOkF n = true) (h2 : askOkF a = true) (h3 : timeOk now = true) (h4 : a.seq = (findM n.seen a.client).seq) (h6 : (findM n.seen a.client).index > n.durable) : askedF n a now = (n, []) := by
 have h5 : n.durable < (findM n.seen a.client).index := h6
 simp [askedF, h, h2, h3, h4, h5]
theorem ak_told (h : logOkF n = true) (h2 : askOkF a = true) (h3 : timeOk now = true) (h4 : a.seq = (findM n.seen a.client).seq) (h6 : ¬ (findM n.seen a.client).index > n.durable) : askedF n a now = (n, [⟨a.client, a.seq, (findM n.seen a.client).index, (findM n.seen a.client).seq⟩]) := by
 have h5 : ¬ n.durable < (findM n.seen a.client).index := h6
 simp [askedF, h, h2, h3, h4, h5]
end
theorem ak_le {n : LogN} {a : Ask} (h1 : ¬ a.seq > (findM n.seen a.client).seq) (h2 : ¬ a.seq < (findM n.seen a.client).seq) : a.seq = (findM n.seen a.client).seq := by omega
theorem ak_lt {n : LogN} {a : Ask} (h1 : ¬ a.seq > (findM n.seen a.client).seq) (h2 : a.seq ≠ (findM n.seen a.client).seq) : a.seq < (findM n.seen a.client).seq := by omega
theorem c_AskOk (a : Ask) : Pure Tryz.prog 52 [many (askC a)] (bR (askOkF a)) := by
 refine pure_intro (N := 16) Tryz.func52 rfl rfl rfl rfl (fun H w => ?_)
 refine sq (rg (evl_e (e_box rfl rfl rfl rfl) (xs rfl rfl (nl (et (sq (rg (xf ttOk rfl rfl (xl ttOk rfl rfl (evl_call (nm := 5) (cf rfl) (c_AskerOk _) (rs_of rfl) rfl rfl rfl (xm rfl rfl (evl_part rfl rfl (fun h1 => ?_) (fun h1 => ?_)))))))))))))
 ·refine go h1 rfl rfl (q_fieldAddr ttOk rfl) rfl (go h1 rfl rfl (q_load ttOk rfl) rfl (evl_callg rfl rfl h1 (nm := 9) (cf rfl) (c_seqOk _) (rs_of rfl) rfl rfl rfl (xo (q_pick_t rfl h1 rfl) rfl (xm rfl rfl (evl_part rfl rfl (fun h2 => ?_) (fun h2 => ?_))))))
  ·refine go h2 rfl rfl (q_fieldAddr ttOk rfl) rfl (go h2 rfl rfl (q_load ttOk rfl) rfl (evl_callg rfl rfl h2 (nm := 14) (cf rfl) (c_OpOk _ _ _ _ _) (rs_of rfl) rfl rfl rfl (xo (q_pick_t rfl h2 rfl) rfl (xs rfl rfl (nl (et (ev_ret (ret_pure' ttOk rfl rfl (congrArg bR (?_ : _ = _))))))))))
   simp_all [askOkF]
  ·refine gn h2 rfl rfl rfl (gn h2 rfl rfl rfl (gn h2 rfl rfl rfl (xo (q_pick_f rfl h2 rfl) rfl (xs rfl rfl (nl (et (ev_ret (ret_pure' ttOk rfl rfl (congrArg bR (?_ : _ = _))))))))))
   simp_all [askOkF]
 ·refine gn h1 rfl rfl rfl (gn h1 rfl rfl rfl (gn h1 rfl rfl rfl (xo (q_pick_f rfl h1 rfl) rfl (xm rfl rfl (gn rfl rfl rfl rfl (gn rfl rfl rfl rfl (gn rfl rfl rfl rfl (xo (q_pick_f rfl rfl rfl) rfl (xs rfl rfl (nl (et (ev_ret (ret_pure' ttOk rfl rfl (congrArg bR (?_ : _ = _)))))))))))))))
  simp_all [askOkF]
theorem c_AskOk' (a : Ask) : Pure Tryz.prog 63 [many (askC a)] (bR (askOkF a)) := by
 refine pure_intro (N := 16) Tryz.func63 rfl rfl rfl rfl (fun H w => ?_)
 refine sq (rg (evl_e (e_box rfl rfl rfl rfl) (xs rfl rfl (nl (et (sq (rg (xf ttOk rfl rfl (xl ttOk rfl rfl (evl_call (nm := 5) (cf rfl) (c_AskerOk' _) (rs_of rfl) rfl rfl rfl (xm rfl rfl (evl_part rfl rfl (fun h1 => ?_) (fun h1 => ?_)))))))))))))
 ·refine go h1 rfl rfl (q_fieldAddr ttOk rfl) rfl (go h1 rfl rfl (q_load ttOk rfl) rfl (evl_callg rfl rfl h1 (nm := 9) (cf rfl) (c_seqOk' _) (rs_of rfl) rfl rfl rfl (xo (q_pick_t rfl h1 rfl) rfl (xm rfl rfl (evl_part rfl rfl (fun h2 => ?_) (fun h2 => ?_))))))
  ·refine go h2 rfl rfl (q_fieldAddr ttOk rfl) rfl (go h2 rfl rfl (q_load ttOk rfl) rfl (evl_callg rfl rfl h2 (nm := 14) (cf rfl) (c_OpOk' _ _ _ _ _) (rs_of rfl) rfl rfl rfl (xo (q_pick_t rfl h2 rfl) rfl (xs rfl rfl (nl (et (ev_ret (ret_pure' ttOk rfl rfl (congrArg bR (?_ : _ = _))))))))))
   simp_all [askOkF]
  ·refine gn h2 rfl rfl rfl (gn h2 rfl rfl rfl (gn h2 rfl rfl rfl (xo (q_pick_f rfl h2 rfl) rfl (xs rfl rfl (nl (et (ev_ret (ret_pure' ttOk rfl rfl (congrArg bR (?_ : _ = _))))))))))
   simp_all [askOkF]
 ·refine gn h1 rfl rfl rfl (gn h1 rfl rfl rfl (gn h1 rfl rfl rfl (xo (q_pick_f rfl h1 rfl) rfl (xm rfl rfl (gn rfl rfl rfl rfl (gn rfl rfl rfl rfl (gn rfl rfl rfl rfl (xo (q_pick_f rfl rfl rfl) rfl (xs rfl rfl (nl (et (ev_ret (ret_pure' ttOk rfl rfl (congrArg bR (?_ : _ = _)))))))))))))))
  simp_all [askOkF]
theorem c_KeptEntry (t : Two) (e : Entry) (he : entryOk e = true) : Pure Tryz.prog 131 [many (twoC t), many (entryC e)] [many' (twoR ((keptEntryF t e).1)), one' (RC.v (.bool ((keptEntryF t e).2)))] := by
 refine pure_intro (N := 24) Tryz.func131 rfl rfl rfl rfl (fun H w => ?_)
 have hix := entry_ix he
 refine sq (rg (evl_e (e_box rfl rfl rfl rfl) (evl_e (e_box rfl rfl rfl rfl) (evl_e (e_alloc ttOk rfl rfl rfl rfl) (xs rfl rfl (nl (et (sq (sq (rg (xl ttOk rfl rfl (evl_call (nm := 7) (cf rfl) (c_KeptOk t) (rs_of rfl) rfl rfl rfl (xo (q_not rfl) rfl (nl (et (ev_cond_n rfl (fun h1 => ?_) (fun h1 => ?_)))))))))))))))))
 ·refine sq (rg (xo (q_build ttOk rfl) rfl (xst ttOk rfl rfl (xs rfl rfl (nl (et (ev_ret (evr_then (ret_pureN ttOk rfl rfl ?_)))))))))
  first
  | (rw [ke_no ‹_›]; simp [RpLe, L2, RcLe, zeroD, zeroT]; done)
  | (rw [ke_yes ‹_› he]; simp [RpLe, L2, RcLe]; done)
  | (exfalso; simp_all; done)
 ·refine ev_skip (et (sq (sq (rg (xl ttOk rfl rfl (evl_call (nm := 11) (cf rfl) (c_EntryOk e) (rs_of rfl) rfl rfl rfl (xo (q_not rfl) rfl (nl (et (ev_cond_n rfl (fun h2 => ?_) (fun h2 => ?_)))))))))))
  ·refine sq (rg (xl ttOk rfl rfl (evl_call (nm := 14) (cf rfl) (c_l4Copy t (keptOk_iff.1 ‹_›).1) (rs_of rfl) rfl rfl rfl (xst ttOk rfl rfl (xs rfl rfl (nl (et (ev_ret (evr_then (ret_pureN ttOk rfl rfl ?_))))))))))
   first
   | (rw [ke_no ‹_›]; simp [RpLe, L2, RcLe, zeroD, zeroT]; done)
   | (rw [ke_yes ‹_› he]; simp [RpLe, L2, RcLe]; done)
   | (exfalso; simp_all; done)
  ·refine ev_skip (et (sq (ev_drawq [9] mo (rk0 0 rfl (q_load ttOk rfl) rfl (rk0 1 rfl (q_fieldAddr ttOk rfl) rfl (rk0 2 rfl (q_load ttOk rfl) rfl (rk0 4 rfl (q_load ttOk rfl) rfl (rdk_one 3 kr (rdo_call (nm := 18) rfl trivial (cf rfl) (c_SlotOf2 e.index (inB_iff.2 hix)) (rs_of rfl) rfl rfl rfl (rdk_one 5 kr (rdo_call (nm := 20) rfl trivial (cf rfl) (c_SlotRow e he) (rs_of rfl) rfl rfl rfl (rdk_one 6 kr (rdo_call (nm := 21) rfl trivial (cf rfl) (c_BothWrote t (slotF e.index) (slotRowF e)) (rs_of rfl) rfl rfl rfl (rk0 7 rfl (q_ext rfl) rfl (rk0 8 rfl (q_ext rfl) rfl (rdk_one 9 kr (rdo_brk rfl rfl trivial (e_store ttOk rfl) (rdb_q 10 rfl kr trivial (q_assign rfl) rfl (rdb_endq kr (et (ev_ret (ret_pureN ttOk rfl rfl ?_))))))))))))))))))))))
   first
   | (rw [ke_no ‹_›]; simp [RpLe, L2, RcLe, zeroD, zeroT]; done)
   | (rw [ke_yes ‹_› he]; simp [RpLe, L2, RcLe]; done)
   | (exfalso; simp_all; done)
theorem c_SlotOf' (x : Int) (h : indexOk x = true) : Pure Tryz.prog 210 [one (iC x)] (iR (slotF x)) := by
 refine pure_intro (N := 8) Tryz.func210 rfl rfl rfl rfl (fun H w => ?_)
 have hx := inB_iff.1 h
 refine sq (rg (xs rfl rfl (nl (et (sq (sq (rg (xm rfl rfl (evl_call (nm := 4) (cf rfl) (c_indexOk' _) (rs_of rfl) rfl rfl rfl (xo (q_not rfl) rfl (nl (et (ev_cond_n rfl (fun h1 => ?_) (fun h1 => ?_))))))))))))))
 ·refine sq (rg (xs rfl rfl (nl (et (ev_ret (evr_then (ret_pure' ttOk rfl rfl ?_)))))))
  first
  | rfl
  | (exfalso; simp_all; done)
 ·refine ev_skip (et (sq (rg (xm rfl rfl (evl_call (nm := 7) (cf rfl) (c_slotOf x om) (rs_of rfl) rfl rfl rfl (xs rfl rfl (nl (et (ev_ret (ret_pure' ttOk rfl rfl ?_))))))))))
  first
  | rfl
  | (exfalso; simp_all; done)
theorem c_KeptEntry' (t : Two) (e : Entry) (he : entryOk e = true) : Pure Tryz.prog 148 [many (twoC t), many (entryC e)] [many' (twoR ((keptEntryF t e).1)), one' (RC.v (.bool ((keptEntryF t e).2)))] := by
 refine pure_intro (N := 15) Tryz.func148 rfl rfl rfl rfl (fun H w => ?_)
 have hix := entry_ix he
 refine sq (rg (evl_e (e_box rfl rfl rfl rfl) (evl_e (e_box rfl rfl rfl rfl) (evl_e (e_alloc ttOk rfl rfl rfl rfl) (xs rfl rfl (nl (et (sq (ev_drawq [9] mo (rk0 0 rfl (q_load ttOk rfl) rfl (rk0 1 rfl (q_fieldAddr ttOk rfl) rfl (rk0 2 rfl (q_load ttOk rfl) rfl (rk0 4 rfl (q_load ttOk rfl) rfl (rdk_one 3 kr (rdo_call (nm := 9) rfl trivial (cf rfl) (c_SlotOf' e.index (inB_iff.2 hix)) (rs_of rfl) rfl rfl rfl (rdk_one 5 kr (rdo_call (nm := 11) rfl trivial (cf rfl) (c_SlotRow' e he) (rs_of rfl) rfl rfl rfl (rdk_one 6 kr (rdo_call (nm := 12) rfl trivial (cf rfl) (c_keptRow t (slotF e.index) (slotRowF e) (slotRow_ne he)) (rs_of rfl) rfl rfl rfl (rk0 7 rfl (q_ext rfl) rfl (rk0 8 rfl (q_ext rfl) rfl (rdk_one 9 kr (rdo_brk rfl rfl trivial (e_store ttOk rfl) (rdb_q 10 rfl kr trivial (q_assign rfl) rfl (rdb_endq kr (et (ev_ret (ret_pureN ttOk rfl rfl ?_))))))))))))))))))))))))))))
 rw [show keptEntryF t e = keptRowF t (slotF e.index) (slotRowF e) by simp only [keptEntryF, keptRowF]; rw [he]; rfl]; simp [RpLe, L2, RcLe]
theorem c_l12Fresh (n : LogN) (a : Ask) (now : Int) (h : logOkF n = true) (ha : askOkF a = true) (hn : timeOk now = true) : Pure Tryz.prog 55 [many (logC n), many (askC a), one (iC now)] [many' (logR (freshLogF n a now))] := by
 refine pure_intro (N := 78) Tryz.func55 rfl rfl rfl rfl (fun H w => ?_)
 obtain ⟨hk, hh, hb, he1, he2⟩ := log_all h
 have hsm := log_small h
 have hbd := book_bd hb
 have hbl := book_last hb
 have hbl2 := book_last2 hb
 have hbq : lastB n.book = n.book.base + n.book.entries.length := rfl
 have hso := of_sok (log_seen h).2.2
 refine sq (rg (evl_e (e_box rfl rfl rfl rfl) (evl_e (e_box rfl rfl rfl rfl) (evl_e (e_alloc ttOk rfl rfl rfl rfl) (nl (et (sq (rg (xl ttOk rfl rfl (evl_call (nm := 13) (cf rfl) (c_l12Copy n h) (rs_of rfl) rfl rfl rfl (evl_e (e_alloc ttOk rfl rfl rfl rfl) (xst ttOk rfl rfl (nl (et (sq (rg (xf ttOk rfl rfl (xl ttOk rfl rfl (evl_call (nm := 16) (cf rfl) (c_l8Last n.book hb) (rs_of rfl) rfl rfl rfl (xs rfl rfl (nl (et (sq (sq (rg (xf ttOk rfl rfl (xf ttOk rfl rfl (xl ttOk rfl rfl (xo (q_len_map ttOk rfl rfl) rfl (xb ttOk rfl rfl (xm rfl rfl (evl_part rfl rfl (fun h1 => ?_) (fun h1 => ?_)))))))))))))))))))))))))))))))))
 ·try have d1 := of_decide_eq_true h1
  refine gn h1 rfl rfl rfl (gn h1 rfl rfl rfl (xo (q_pick_t rfl h1 rfl) rfl (nl (et (ev_cond_kt rfl rfl (sq (rg (xl ttOk rfl rfl (xst ttOk rfl rfl (nl (et (ev_ret (evr_then (ret_pureN ttOk rfl rfl ?_))))))))))))))
  first
  | (rw [fr_no1 (fits_len om)]; simp [RpLe, L2, RcLe]; done)
  | (rw [fr_no1 (fits_last om)]; simp [RpLe, L2, RcLe]; done)
  | (rw [fr_no2 ‹_›]; simp [RpLe, L2, RcLe]; done)
  | (rw [fr_yes hfit ‹_›]; simp [RpLe, L2, RcLe, withE, apd_yes hb hfit]; done)
 ·try have d1 := of_decide_eq_false h1
  refine gm h1 rfl rfl rfl rfl (go h1 rfl rfl (q_bin ttOk rfl) rfl (xo (q_pick_f rfl h1 rfl) rfl (nl (et (ev_cond rfl (fun h2 => ?_) (fun h2 => ?_))))))
  ·try have d2 := of_decide_eq_true h2
   refine sq (rg (xl ttOk rfl rfl (xst ttOk rfl rfl (nl (et (ev_ret (evr_then (ret_pureN ttOk rfl rfl ?_))))))))
   first
   | (rw [fr_no1 (fits_len om)]; simp [RpLe, L2, RcLe]; done)
   | (rw [fr_no1 (fits_last om)]; simp [RpLe, L2, RcLe]; done)
   | (rw [fr_no2 ‹_›]; simp [RpLe, L2, RcLe]; done)
   | (rw [fr_yes hfit ‹_›]; simp [RpLe, L2, RcLe, withE, apd_yes hb hfit]; done)
  ·try have d2 := of_decide_eq_false h2
   refine ev_skip (et (sq ?_))
   have hfit : fitsF n.book (entA n a now) = true := entA_fits hb ha hn om om
   have hent := (fits_iff.1 hfit).1
   refine' ev_draw [16] mo ?hdr1 ?kdr1
   case hdr1 =>
    refine rk0 0 rfl (q_move rfl) rfl (rk0 1 rfl (q_ar rfl rfl rfl om) rfl (rk0 2 rfl (q_move rfl) rfl (rk0 3 rfl (q_fieldAddr ttOk rfl) rfl (rk0 4 rfl (q_load ttOk rfl) rfl (rk0 5 rfl (q_move rfl) rfl (rk0 8 rfl (q_fieldAddr ttOk rfl) rfl (rk0 9 rfl (q_load ttOk rfl) rfl (rk0 10 rfl (q_fieldAddr ttOk rfl) rfl (rk0 11 rfl (q_load ttOk rfl) rfl (rk0 12 rfl (q_fieldAddr ttOk rfl) rfl (rk0 13 rfl (q_load ttOk rfl) rfl (rdk_two 6 15 kr ?_ ?_))))))))))))
    ·refine rdo_call (nm := 33) rfl trivial (cf rfl) (c_l8TimeAt n.book (lastB n.book) hb ⟨by omega, by omega⟩) (rs_of rfl) rfl rfl rfl (rdk_two 7 15 kr ?_ ?_)
     ·refine rdo_call (nm := 34) rfl trivial (cf rfl) (c_l1Max _ _) (rs_of rfl) rfl rfl rfl (rk0 14 rfl (q_build ttOk rfl) rfl (rdk_one 15 kr (rdo_new rfl trivial (e_alloc ttOk rfl rfl rfl rfl) (rdk_one 16 kr (rdo_brk rfl rfl trivial (e_store ttOk rfl) ?_)))))
      exact rdb_fin kr
     ·refine rdo_new rfl trivial (e_alloc ttOk rfl rfl rfl rfl) (rdk_one 7 kr (rdo_call (nm := 34) rfl trivial (cf rfl) (c_l1Max _ _) (rs_of rfl) rfl rfl rfl (rk0 14 rfl (q_build ttOk rfl) rfl (rdk_one 16 kr (rdo_brk rfl rfl trivial (e_store ttOk rfl) ?_)))))
      exact rdb_le [] kr lei
    ·refine rdo_new rfl trivial (e_alloc ttOk rfl rfl rfl rfl) (rdk_one 6 kr (rdo_call (nm := 33) rfl trivial (cf rfl) (c_l8TimeAt n.book (lastB n.book) hb ⟨by omega, by omega⟩) (rs_of rfl) rfl rfl rfl (rdk_one 7 kr (rdo_call (nm := 34) rfl trivial (cf rfl) (c_l1Max _ _) (rs_of rfl) rfl rfl rfl (rk0 14 rfl (q_build ttOk rfl) rfl (rdk_one 16 kr (rdo_brk rfl rfl trivial (e_store ttOk rfl) ?_)))))))
     exact rdb_le [] kr lei
   refine et (sq (rg (xf ttOk rfl rfl (xl ttOk rfl rfl (xl ttOk rfl rfl (evl_call (nm := 46) (cf rfl) (c_KeptEntry n.two (entA n a now) hent) (rs_of rfl) rfl rfl rfl (xm rfl rfl (xo (q_ext rfl) rfl (xo (q_ext rfl) rfl (evl_e (e_alloc ttOk rfl rfl rfl rfl) (xst ttOk rfl rfl (xs rfl rfl (nl (et (sq (sq (rg (xm rfl rfl (xo (q_not rfl) rfl (nl (et (ev_cond_n rfl (fun h3 => ?_) (fun h3 => ?_)))))))))))))))))))))))
   ·try have d3 := of_decide_eq_false h3
    refine sq (rg (xl ttOk rfl rfl (xst ttOk rfl rfl (nl (et (ev_ret (evr_then (ret_pureN ttOk rfl rfl ?_))))))))
    first
    | (rw [fr_no1 (fits_len om)]; simp [RpLe, L2, RcLe]; done)
    | (rw [fr_no1 (fits_last om)]; simp [RpLe, L2, RcLe]; done)
    | (rw [fr_no2 ‹_›]; simp [RpLe, L2, RcLe]; done)
    | (rw [fr_yes hfit ‹_›]; simp [RpLe, L2, RcLe, withE, apd_yes hb hfit]; done)
   ·try have d3 := of_decide_eq_true h3
    refine ev_skip (et (sq (rg (xl ttOk rfl rfl (xf ttOk rfl rfl (xst ttOk rfl rfl (nl (et (sq (rg (xf ttOk rfl rfl (xl ttOk rfl rfl (xl ttOk rfl rfl (evl_call (nm := 58) (cf rfl) (c_Appended n.book (entA n a now)) (rs_of rfl) rfl rfl rfl (xm rfl rfl (xo (q_ext rfl) rfl (xo (q_ext rfl) rfl (xf ttOk rfl rfl (xst ttOk rfl rfl (nl (et (sq (rg (xf ttOk rfl rfl (xl ttOk rfl rfl (xl ttOk rfl rfl (evl_call (nm := 66) (cf rfl) (c_Marked n.seen (entA n a now)) (rs_of rfl) rfl rfl rfl (xm rfl rfl (xo (q_ext rfl) rfl (xo (q_ext rfl) rfl (xf ttOk rfl rfl (xst ttOk rfl rfl (nl (et (sq (ev_drawq [5, 7] mo (rk0 0 rfl (q_fieldAddr ttOk rfl) rfl (rk0 1 rfl (q_load ttOk rfl) rfl (rk0 2 rfl (q_load ttOk rfl) rfl (rdk_one 3 kr (rdo_call (nm := 73) rfl trivial (cf rfl) (c_AckOf (entA n a now)) (rs_of rfl) rfl rfl rfl (rdk_one 4 kr (rdo_new rfl trivial (e_lit ttOk rfl rfl rfl) (rdk_one 5 kr (rdo_brk rfl rfl trivial (e_app ttOk rfl rfl rfl rfl rfl rfl rfl (by simp; omega) rfl rfl) (rdb_q 6 rfl kr trivial (q_fieldAddr ttOk rfl) rfl (rdb_eff 7 rfl kr trivial (e_store ttOk rfl) (rdb_endq kr (et (sq ?_))))))))))))))))))))))))))))))))))))))))))))))))))
    refine rg (xl ttOk rfl rfl (xst ttOk rfl rfl (nl (et (ev_ret (ret_pureN ttOk rfl rfl ?_))))))
    first
    | (rw [fr_no1 (fits_len om)]; simp [RpLe, L2, RcLe]; done)
    | (rw [fr_no1 (fits_last om)]; simp [RpLe, L2, RcLe]; done)
    | (rw [fr_no2 ‹_›]; simp [RpLe, L2, RcLe]; done)
    | (rw [fr_yes hfit ‹_›]; simp [RpLe, L2, RcLe, withE, apd_yes hb hfit]; done)
theorem c_AskedOf (n : LogN) (a : Ask) (now : Int) : Pure Tryz.prog 13 [many (logC n), many (askC a), one (iC now)] [many' (logR ((askedF n a now).1)), one' (acksR (askedF n a now).2)] := by
 refine pure_intro (N := 80) Tryz.func13 rfl rfl rfl rfl (fun H w => ?_)
 refine sq (rg (evl_e (e_box rfl rfl rfl rfl) (evl_e (e_box rfl rfl rfl rfl) (evl_e (e_alloc ttOk rfl rfl rfl rfl) (xs rfl rfl (nl (et (sq (rg (evl_e (e_lit ttOk rfl rfl rfl) (xs rfl rfl (nl (et (sq (sq (rg (xl ttOk rfl rfl (evl_call (nm := 12) (cf rfl) (c_LogOk n) (rs_of rfl) rfl rfl rfl (xo (q_not rfl) rfl (nl (et (ev_cond_n rfl (fun h1 => ?_) (fun h1 => ?_)))))))))))))))))))))))
 try have d1 := of_decide_eq_false h1
 refine sq (rg (xo (q_build ttOk rfl) rfl (xm rfl rfl (xst ttOk rfl rfl (xs rfl rfl (nl (et (ev_ret (evr_then (ret_pureN ttOk rfl rfl ?_))))))))))
 rotate_left
 try have d1 := of_decide_eq_true h1
 obtain ⟨hk, hh, hb, he1, he2⟩ := log_all h1
 have hsm := log_small h1
 have hso := of_sok (log_seen h1).2.2
 refine ev_skip (et (sq (sq (rg (xl ttOk rfl rfl (evl_call (nm := 17) (cf rfl) (c_AskOk a) (rs_of rfl) rfl rfl rfl (xo (q_not rfl) rfl (xm rfl rfl (evl_partn rfl rfl (fun h2 => ?_) (fun h2 => ?_))))))))))
 try have d2 := of_decide_eq_false h2
 refine gn (nt h2) rfl rfl rfl (gn (nt h2) rfl rfl rfl (gn (nt h2) rfl rfl rfl (xo (q_pick_t rfl (nt h2) rfl) rfl (nl (et (ev_cond_kt rfl rfl (sq (rg (xl ttOk rfl rfl (evl_call (nm := 25) (cf rfl) (c_l12Copy n ‹_›) (rs_of rfl) rfl rfl rfl (xm rfl rfl (xst ttOk rfl rfl (xs rfl rfl (nl (et (ev_ret (evr_then (ret_pureN ttOk rfl rfl ?_))))))))))))))))))
 rotate_left
 try have d2 := of_decide_eq_true h2
 refine gm (nf h2) rfl rfl rfl rfl (evl_callg rfl rfl (nf h2) (nm := 21) (cf rfl) (c_TimeOk _) (rs_of rfl) rfl rfl rfl (go (nf h2) rfl rfl (q_not rfl) rfl (xo (q_pick_f rfl (nf h2) rfl) rfl (nl (et (ev_cond_n rfl (fun h3 => ?_) (fun h3 => ?_)))))))
 try have d3 := of_decide_eq_false h3
 refine sq (rg (xl ttOk rfl rfl (evl_call (nm := 25) (cf rfl) (c_l12Copy n ‹_›) (rs_of rfl) rfl rfl rfl (xm rfl rfl (xst ttOk rfl rfl (xs rfl rfl (nl (et (ev_ret (evr_then (ret_pureN ttOk rfl rfl ?_)))))))))))
 rotate_left
 try have d3 := of_decide_eq_true h3
 refine ev_skip (et (sq (rg (xf ttOk rfl rfl (xl ttOk rfl rfl (xf ttOk rfl rfl (xl ttOk rfl rfl (evl_call (nm := 31) (cf rfl) (c_MarkOf2 n.seen a.client hso) (rs_of rfl) rfl rfl rfl (evl_e (e_alloc ttOk rfl rfl rfl rfl) (xst ttOk rfl rfl (nl (et (sq (ev_blk (sq (rg (xf ttOk rfl rfl (xl ttOk rfl rfl (xf ttOk rfl rfl (xl ttOk rfl rfl (xb ttOk rfl rfl (xs rfl rfl (nl (et (ev_cond rfl (fun h4 => ?_) (fun h4 => ?_))))))))))))))))))))))))))
 try have d4 := of_decide_eq_true h4
 refine sq (rg (xl ttOk rfl rfl (xl ttOk rfl rfl (xm rfl rfl (evl_call (nm := 41) (cf rfl) (c_l12Fresh n a now ‹_› ‹_› ‹_›) (rs_of rfl) rfl rfl rfl (xm rfl rfl (xst ttOk rfl rfl (xs rfl rfl (nl (et (ev_ret (evr_blk (evr_then (ret_pureN ttOk rfl rfl ?_))))))))))))))
 rotate_left
 try have d4 := of_decide_eq_false h4
 refine sq (rg (xf ttOk rfl rfl (xl ttOk rfl rfl (xf ttOk rfl rfl (xl ttOk rfl rfl (xb ttOk rfl rfl (xs rfl rfl (nl (et (ev_cond rfl (fun h5 => ?_) (fun h5 => ?_)))))))))))
 try have d5 := of_decide_eq_true h5
 refine sq (ev_frz (cs := logC n) 3 rfl rfl rfl (fun HF10_0 hHF10_0 => ?_))
 refine ev_frz (cs := askC a) 4 rfl rfl rfl (fun HF10_1 hHF10_1 => ?_)
 refine ev_frz (cs := markC (findM n.seen a.client)) 9 rfl rfl rfl (fun HF10_2 hHF10_2 => ?_)
 refine ev_drawh mo (rdh_take 0 rfl kr trivial (q_loadH ttOk rfl rfl) rfl (rdh_take 2 rfl kr trivial (QuietW.h (qw_fieldAddr ttOk rfl)) rfl (rdh_take 3 rfl kr trivial (q_loadH ttOk rfl rfl) rfl (rdh_take 4 rfl kr trivial (QuietW.h (qw_fieldAddr ttOk rfl)) rfl (rdh_take 5 rfl kr trivial (q_loadH ttOk rfl rfl) rfl (rdh_take 6 rfl kr trivial (QuietW.h (qw_fieldAddr ttOk rfl)) rfl (rdh_take 7 rfl kr trivial (q_loadH ttOk rfl rfl) rfl (rdh_2 1 8 kr ?_ ?_))))))))
 refine rdho_call (nm := 50) rfl trivial (cf rfl) (c_l12Copy n ‹_›) (rs_of rfl) rfl rfl rfl (rdh_2 8 10 kr ?_ ?_)
 refine rdho_q rfl trivial (q_build ttOk rfl) rfl (rdh_2 9 10 kr ?_ ?_)
 refine rdho_eff rfl trivial (e_lit ttOk rfl rfl rfl) (rdh_1 10 kr (rdho_eff rfl trivial (e_store ttOk rfl) (rdh_take 11 rfl kr trivial (QuietW.h (qw_assign rfl)) rfl (rdh_endq kr (et (ev_ret (evr_blk (evr_then (retH rfl (ret_pureN ttOk rfl rfl ?_))))))))))
 rotate_left
 refine rdho_eff rfl trivial (e_store ttOk rfl) (rdh_1 9 kr (rdho_eff rfl trivial (e_lit ttOk rfl rfl rfl) (rdh_take 11 rfl kr trivial (QuietW.h (qw_assign rfl)) rfl (rdh_endq kr (et (ev_ret (evr_blk (evr_then (retH rfl (ret_pureN ttOk rfl rfl ?_))))))))))
 rotate_left
 refine rdho_eff rfl trivial (e_store ttOk rfl) (rdh_1 8 kr (rdho_q rfl trivial (q_build ttOk rfl) rfl (rdh_1 9 kr (rdho_eff rfl trivial (e_lit ttOk rfl rfl rfl) (rdh_take 11 rfl kr trivial (QuietW.h (qw_assign rfl)) rfl (rdh_endq kr (et (ev_ret (evr_blk (evr_then (retH rfl (ret_pureN ttOk rfl rfl ?_))))))))))))
 rotate_left
 refine rdho_q rfl trivial (q_build ttOk rfl) rfl (rdh_2 1 9 kr ?_ ?_)
 refine rdho_call (nm := 50) rfl trivial (cf rfl) (c_l12Copy n ‹_›) (rs_of rfl) rfl rfl rfl (rdh_2 9 10 kr ?_ ?_)
 refine rdho_eff rfl trivial (e_lit ttOk rfl rfl rfl) (rdh_1 10 kr (rdho_eff rfl trivial (e_store ttOk rfl) (rdh_take 11 rfl kr trivial (QuietW.h (qw_assign rfl)) rfl (rdh_endq kr (et (ev_ret (evr_blk (evr_then (retH rfl (ret_pureN ttOk rfl rfl ?_))))))))))
 rotate_left
 refine rdho_eff rfl trivial (e_store ttOk rfl) (rdh_1 9 kr (rdho_eff rfl trivial (e_lit ttOk rfl rfl rfl) (rdh_take 11 rfl kr trivial (QuietW.h (qw_assign rfl)) rfl (rdh_endq kr (et (ev_ret (evr_blk (evr_then (retH rfl (ret_pureN ttOk rfl rfl ?_))))))))))
 rotate_left
 refine rdho_eff rfl trivial (e_lit ttOk rfl rfl rfl) (rdh_1 1 kr (rdho_call (nm := 50) rfl trivial (cf rfl) (c_l12Copy n ‹_›) (rs_of rfl) rfl rfl rfl (rdh_1 10 kr (rdho_eff rfl trivial (e_store ttOk rfl) (rdh_take 11 rfl kr trivial (QuietW.h (qw_assign rfl)) rfl (rdh_endq kr (et (ev_ret (evr_blk (evr_then (retH rfl (ret_pureN ttOk rfl rfl ?_))))))))))))
 rotate_left
 try have d5 := of_decide_eq_false h5
 refine sq (rg (xf ttOk rfl rfl (xl ttOk rfl rfl (xf ttOk rfl rfl (xl ttOk rfl rfl (xb ttOk rfl rfl (xs rfl rfl (nl (et (ev_cond rfl (fun h6 => ?_) (fun h6 => ?_)))))))))))
 try have d6 := of_decide_eq_true h6
 refine sq (rg (xl ttOk rfl rfl (evl_call (nm := 66) (cf rfl) (c_l12Copy n ‹_›) (rs_of rfl) rfl rfl rfl (xm rfl rfl (xst ttOk rfl rfl (xs rfl rfl (nl (et (ev_ret (evr_blk (evr_then (ret_pureN ttOk rfl rfl ?_))))))))))))
 rotate_left
 try have d6 := of_decide_eq_false h6
 refine ev_skip (eb (et (sq (ev_frz (cs := logC n) 3 rfl rfl rfl (fun HF13_0 hHF13_0 => ?_)))))
 refine ev_frz (cs := askC a) 4 rfl rfl rfl (fun HF13_1 hHF13_1 => ?_)
 refine ev_frz (cs := markC (findM n.seen a.client)) 9 rfl rfl rfl (fun HF13_2 hHF13_2 => ?_)
 refine ev_drawh mo (rdh_take 0 rfl kr trivial (q_loadH ttOk rfl rfl) rfl (rdh_take 2 rfl kr trivial (QuietW.h (qw_fieldAddr ttOk rfl)) rfl (rdh_take 3 rfl kr trivial (q_loadH ttOk rfl rfl) rfl (rdh_take 4 rfl kr trivial (QuietW.h (qw_fieldAddr ttOk rfl)) rfl (rdh_take 5 rfl kr trivial (q_loadH ttOk rfl rfl) rfl (rdh_take 6 rfl kr trivial (QuietW.h (qw_fieldAddr ttOk rfl)) rfl (rdh_take 7 rfl kr trivial (q_loadH ttOk rfl rfl) rfl (rdh_take 8 rfl kr trivial (QuietW.h (qw_fieldAddr ttOk rfl)) rfl (rdh_take 9 rfl kr trivial (q_loadH ttOk rfl rfl) rfl (rdh_2 1 10 kr ?_ ?_))))))))))
 refine rdho_call (nm := 69) rfl trivial (cf rfl) (c_l12Copy n ‹_›) (rs_of rfl) rfl rfl rfl (rdh_2 10 12 kr ?_ ?_)
 refine rdho_q rfl trivial (q_build ttOk rfl) rfl (rdh_2 11 12 kr ?_ ?_)
 refine rdho_eff rfl trivial (e_lit ttOk rfl rfl rfl) (rdh_1 12 kr (rdho_eff rfl trivial (e_store ttOk rfl) (rdh_take 13 rfl kr trivial (QuietW.h (qw_assign rfl)) rfl (rdh_endq kr (et (ev_ret (retH rfl (ret_pureN ttOk rfl rfl ?_))))))))
 rotate_left
 refine rdho_eff rfl trivial (e_store ttOk rfl) (rdh_1 11 kr (rdho_eff rfl trivial (e_lit ttOk rfl rfl rfl) (rdh_take 13 rfl kr trivial (QuietW.h (qw_assign rfl)) rfl (rdh_endq kr (et (ev_ret (retH rfl (ret_pureN ttOk rfl rfl ?_))))))))
 rotate_left
 refine rdho_eff rfl trivial (e_store ttOk rfl) (rdh_1 10 kr (rdho_q rfl trivial (q_build ttOk rfl) rfl (rdh_1 11 kr (rdho_eff rfl trivial (e_lit ttOk rfl rfl rfl) (rdh_take 13 rfl kr trivial (QuietW.h (qw_assign rfl)) rfl (rdh_endq kr (et (ev_ret (retH rfl (ret_pureN ttOk rfl rfl ?_))))))))))
 rotate_left
 refine rdho_q rfl trivial (q_build ttOk rfl) rfl (rdh_2 1 11 kr ?_ ?_)
 refine rdho_call (nm := 69) rfl trivial (cf rfl) (c_l12Copy n ‹_›) (rs_of rfl) rfl rfl rfl (rdh_2 11 12 kr ?_ ?_)
 refine rdho_eff rfl trivial (e_lit ttOk rfl rfl rfl) (rdh_1 12 kr (rdho_eff rfl trivial (e_store ttOk rfl) (rdh_take 13 rfl kr trivial (QuietW.h (qw_assign rfl)) rfl (rdh_endq kr (et (ev_ret (retH rfl (ret_pureN ttOk rfl rfl ?_))))))))
 rotate_left
 refine rdho_eff rfl trivial (e_store ttOk rfl) (rdh_1 11 kr (rdho_eff rfl trivial (e_lit ttOk rfl rfl rfl) (rdh_take 13 rfl kr trivial (QuietW.h (qw_assign rfl)) rfl (rdh_endq kr (et (ev_ret (retH rfl (ret_pureN ttOk rfl rfl ?_))))))))
 rotate_left
 refine rdho_eff rfl trivial (e_lit ttOk rfl rfl rfl) (rdh_1 1 kr (rdho_call (nm := 69) rfl trivial (cf rfl) (c_l12Copy n ‹_›) (rs_of rfl) rfl rfl rfl (rdh_1 12 kr (rdho_eff rfl trivial (e_store ttOk rfl) (rdh_take 13 rfl kr trivial (QuietW.h (qw_assign rfl)) rfl (rdh_endq kr (et (ev_ret (retH rfl (ret_pureN ttOk rfl rfl ?_))))))))))
 rotate_left
 all_goals
  first
  | (rw [ak_no ‹_›]; simp [RpLe, L2, RcLe, zeroL, zeroD, zeroT, noHead]; done)
  | (rw [ak_bad1 ‹_› ‹_›]; simp [RpLe, L2, RcLe]; done)
  | (rw [ak_bad2 ‹_› ‹_›]; simp [RpLe, L2, RcLe]; done)
  | (rw [ak_fresh ‹_› ‹_› ‹_› ‹_›]; simp [RpLe, L2, RcLe]; done)
  | (rw [ak_fresh ‹_› ‹_› ‹_› ‹_›, hfr]; simp [RpLe, L2, RcLe]; done)
  | (rw [ak_old ‹_› ‹_› ‹_› ‹_›]; simp [RpLe, L2, RcLe]; done)
  | (rw [ak_old ‹_› ‹_› ‹_› (ak_lt ‹_› ‹_›)]; simp [RpLe, L2, RcLe]; done)
  | (rw [ak_wait ‹_› ‹_› ‹_› (ak_le ‹_› ‹_›) ‹_›]; simp [RpLe, L2, RcLe]; done)
  | (rw [ak_wait ‹_› ‹_› ‹_› ‹_› ‹_›]; simp [RpLe, L2, RcLe]; done)
  | (rw [ak_told ‹_› ‹_› ‹_› (ak_le ‹_› ‹_›) ‹_›]; simp [RpLe, L2, RcLe]; done)
  | (have hq : a.seq = (findM n.seen a.client).seq := by assumption
     rw [ak_told ‹_› ‹_› ‹_› hq ‹_›, hq]; simp [RpLe, L2, RcLe]; done)
theorem as_nil (t : Value) (w : World) : Calls Tryz.prog 67 #[.nilIface, t] w fun e w' => e = .returned (.bool false) ∧ w' = w := by
 go_enter Tryz.func67, Tryz.ntmps67
 go_wp2
 go_ret
 exact ⟨rfl, rfl⟩
theorem c_recorded (n : LogN) (a : Ask) (now : Int) (h : logOkF n = true) (hok : takesA n (entA n a now) = true) : Takes Tryz.prog 66 (true, logR n) [many (askC a), one (iC now)] [many' (logR (withE n (entA n a now))), one' (RC.v .nilIface)] := by
 obtain ⟨hk, hh, hb, he1, he2⟩ := log_all h
 have hsm := log_small h
 have hbd := book_bd hb
 have hbl := book_last hb
 have hbl2 := book_last2 hb
 have hbq : lastB n.book = n.book.base + n.book.entries.length := rfl
 simp only [takesA, Bool.and_eq_true] at hok
 obtain ⟨hfit, hkep⟩ := hok
 have hent := (fits_iff.1 hfit).1
 refine takes_intro (N := 79) Tryz.func66 rfl rfl rfl rfl rfl rfl (fun H w F => ?_)
 refine sq (rg (evl_e (e_box rfl rfl rfl rfl) (evl_e (e_box rfl rfl rfl rfl) (evl_e (e_alloc ttOk rfl rfl rfl rfl) (xs rfl rfl (nl (et (sq ?_))))))))
 refine' ev_draw [17] mo ?hdr1 ?kdr1
 case hdr1 =>
  refine rk0 0 rfl (q_fieldAddr ttOk rfl) rfl (rk0 1 rfl (q_load ttOk rfl) rfl (rk0 4 rfl (q_move rfl) rfl (rk0 5 rfl (q_fieldAddr ttOk rfl) rfl (rk0 6 rfl (q_load ttOk rfl) rfl (rk0 9 rfl (q_fieldAddr ttOk rfl) rfl (rk0 10 rfl (q_load ttOk rfl) rfl (rk0 11 rfl (q_fieldAddr ttOk rfl) rfl (rk0 12 rfl (q_load ttOk rfl) rfl (rk0 13 rfl (q_fieldAddr ttOk rfl) rfl (rk0 14 rfl (q_load ttOk rfl) rfl (rdk_two 2 16 kr ?_ ?_)))))))))))
  ·refine rdo_call (nm := 13) rfl trivial (cf rfl) (c_lastOf n.book hb) (rs_of rfl) rfl rfl rfl (rk0 3 rfl (q_ar rfl rfl rfl om) rfl (rdk_two 7 16 kr ?_ ?_))
   ·refine rdo_call (nm := 18) rfl trivial (cf rfl) (c_timeOf n.book hb) (rs_of rfl) rfl rfl rfl (rk0 8 rfl (q_max rfl rfl) rfl (rk0 15 rfl (q_build ttOk rfl) rfl (rdk_one 16 kr (rdo_new rfl trivial (e_alloc ttOk rfl rfl rfl rfl) (rdk_one 17 kr (rdo_brk rfl rfl trivial (e_store ttOk rfl) ?_))))))
    exact rdb_fin kr
   ·refine rdo_new rfl trivial (e_alloc ttOk rfl rfl rfl rfl) (rdk_one 7 kr (rdo_call (nm := 18) rfl trivial (cf rfl) (c_timeOf n.book hb) (rs_of rfl) rfl rfl rfl (rk0 8 rfl (q_max rfl rfl) rfl (rk0 15 rfl (q_build ttOk rfl) rfl (rdk_one 17 kr (rdo_brk rfl rfl trivial (e_store ttOk rfl) ?_))))))
    exact rdb_le [] kr lei
  ·refine rdo_new rfl trivial (e_alloc ttOk rfl rfl rfl rfl) (rdk_one 2 kr (rdo_call (nm := 13) rfl trivial (cf rfl) (c_lastOf n.book hb) (rs_of rfl) rfl rfl rfl (rk0 3 rfl (q_ar rfl rfl rfl om) rfl (rdk_one 7 kr (rdo_call (nm := 18) rfl trivial (cf rfl) (c_timeOf n.book hb) (rs_of rfl) rfl rfl rfl (rk0 8 rfl (q_max rfl rfl) rfl (rk0 15 rfl (q_build ttOk rfl) rfl (rdk_one 17 kr (rdo_brk rfl rfl trivial (e_store ttOk rfl) ?_)))))))))
   exact rdb_le [] kr lei
 refine et (sq (sq (rg (xf ttOk rfl rfl (xl ttOk rfl rfl (xl ttOk rfl rfl (evl_call (nm := 30) (cf rfl) (c_fits n.book (entA n a now) hb) (rs_of rfl) rfl rfl rfl (xo (q_not rfl) rfl (nl (et (ev_cond_n rfl (fun h1 => ?_) (fun h1 => ?_))))))))))))
 ·exact absurd (hfit.symm.trans h1) (by decide)
 ·refine ev_skip (et (sq (rg (xf ttOk rfl rfl (xl ttOk rfl rfl (xl ttOk rfl rfl (evl_call (nm := 42) (cf rfl) (c_KeptEntry' n.two (entA n a now) hent) (rs_of rfl) rfl rfl rfl (xm rfl rfl (xo (q_ext rfl) rfl (xo (q_ext rfl) rfl (evl_e (e_alloc ttOk rfl rfl rfl rfl) (xst ttOk rfl rfl (xs rfl rfl (nl (et (sq (sq (rg (xm rfl rfl (xo (q_not rfl) rfl (nl (et (ev_cond_n rfl (fun h2 => ?_) (fun h2 => ?_))))))))))))))))))))))))
  ·exact absurd (hkep.symm.trans h2) (by decide)
  ·refine ev_skip (et (sq (rg (xl ttOk rfl rfl (xf ttOk rfl rfl (xst ttOk rfl rfl (nl (et (sq (rg (xf ttOk rfl rfl (xf ttOk rfl rfl (xl ttOk rfl rfl (xl ttOk rfl rfl (evl_e (e_lit ttOk rfl rfl rfl) (evl_e (e_app ttOk rfl rfl rfl rfl rfl rfl rfl (by simp; omega) rfl rfl) (xf ttOk rfl rfl (xf ttOk rfl rfl (xst ttOk rfl rfl (nl (et (sq (rg (xf ttOk rfl rfl (xl ttOk rfl rfl (xl ttOk rfl rfl (evl_call (nm := 67) (cf rfl) (c_Marked' n.seen (entA n a now)) (rs_of rfl) rfl rfl rfl (xm rfl rfl (xo (q_ext rfl) rfl (xo (q_ext rfl) rfl (xf ttOk rfl rfl (xst ttOk rfl rfl (nl (et (sq (ev_drawq [5, 7] mo (rk0 0 rfl (q_fieldAddr ttOk rfl) rfl (rk0 1 rfl (q_load ttOk rfl) rfl (rk0 2 rfl (q_load ttOk rfl) rfl (rdk_one 3 kr (rdo_call (nm := 74) rfl trivial (cf rfl) (c_AckOf' (entA n a now)) (rs_of rfl) rfl rfl rfl (rdk_one 4 kr (rdo_new rfl trivial (e_lit ttOk rfl rfl rfl) (rdk_one 5 kr (rdo_brk rfl rfl trivial (e_app ttOk rfl rfl rfl rfl rfl rfl rfl (by simp; omega) rfl rfl) (rdb_q 6 rfl kr trivial (q_fieldAddr ttOk rfl) rfl (rdb_eff 7 rfl kr trivial (e_store ttOk rfl) (rdb_endq kr (et (sq ?_))))))))))))))))))))))))))))))))))))))))))))))))))
   refine rg (xl ttOk rfl rfl (xst ttOk rfl rfl (xs rfl rfl (nl (et (ev_ret (ret_take ttOk rfl rfl ?_)))))))
   simp [RpLe, L2, RcLe, withE, appF, entA]
@[reducible] def opR5 (o : Ask) : List RC := [.v (.int .i64 o.kind), .v (.int .i64 o.a), .v (.int .i64 o.b), .v (.int .i64 o.c), .v (.int .i64 o.d)]
@[reducible] def askR (a : Ask) : List RC := [.v (.int .i64 a.client), .v (.int .i64 a.seq), .v (.int .i64 a.kind), .v (.int .i64 a.a), .v (.int .i64 a.b), .v (.int .i64 a.c), .v (.int .i64 a.d)]
end Go.Proofs.YtinmcdcmidlgpaaGreatDoor
