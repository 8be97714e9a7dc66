/- Walks of functions of the program, printed by a program of the prover. -/
import Derived.Test.YtinmcdcmidlgpaaGreatDoorAkF43
import Derived.Test.YtinmcdcmidlgpaaGreatDoorAkVZ
import Derived.Test.YtinmcdcmidlgpaaGreatDoorAkVP
import Derived.Test.YtinmcdcmidlgpaaGreatDoorAkVF
namespace Go.Proofs.YtinmcdcmidlgpaaGreatDoor
open Go.ChangeShapes Go.WideShapes Go.ChangeAt Go.RowKit
set_option linter.unusedVariables false
set_option linter.unusedSimpArgs false
set_option maxHeartbeats 1000000
set_option maxRecDepth 100000
attribute [local irreducible] EvL Ev EvE Quiet Eff Pure RDk RDb RDo
theorem twoOk_iff {t : Two} : twoOk t = true ↔ diskOk t.a = true ∧ diskOk t.b = true ∧ t.a.kept.length = t.b.kept.length := by simp [twoOk]
theorem keptOk_iff {t : Two} : keptOk t = true ↔ twoOk t = true ∧ t.a.kept.length = 22 := by simp [keptOk]
theorem log_all {n : LogN} (h : logOkF n = true) : keptOk n.two = true ∧ headOk n.head = true ∧ bookOk n.book = true ∧ n.book.base = n.head.base ∧ n.book.time = n.head.time := by
 simp only [logOkF, frontF, Bool.and_eq_true, decide_eq_true_eq] at h
 exact ⟨h.1.1, h.1.2.1, h.1.2.2.1, h.1.2.2.2.1, h.1.2.2.2.2⟩
theorem log_parts {n : LogN} (h : logOkF n = true) : frontF n = true ∧ midF n = true ∧ owesF n = true ∧ (if n.more then inB n.next.base (n.head.base + 1) n.durable && eqHd n.next (nextF n n.next.base) else eqHd n.next noHead) = true := by
 simp only [logOkF, Bool.and_eq_true] at h
 exact h
theorem log_seen {n : LogN} (h : logOkF n = true) : overL n.head.seen n.book.entries = some n.seen ∧ SOk n.head.seen ∧ SOk n.seen := by
 obtain ⟨_, hh, hb, _⟩ := log_all h
 have hm := (log_parts h).2.1
 simp only [midF, Bool.and_eq_true] at hm
 obtain ⟨c, hc⟩ := so_some hm.1
 have hs := sok_of (head_bd hh).2.2.2.2
 have e := so4 (of_sok hs) (by have := book_bd hb; omega) hc
 rw [e] at hm
 have := marks_eq hm.2.1
 simp only at this
 rw [← this]
 exact ⟨hc, hs, over_sok hs hc⟩
theorem eqHd_eq {a b : Head} (h : eqHd a b = true) : a = b := by
 simp only [eqHd, Bool.and_eq_true, decide_eq_true_eq] at h
 obtain ⟨h1, h2, h3, h4⟩ := h
 have := marks_eq h4
 cases a
 cases b
 simp_all
theorem log_next {n : LogN} (h : logOkF n = true) (hm : n.more = true) : headOk n.next = true ∧ n.head.base < n.next.base ∧ n.next.base ≤ n.durable ∧ n.next = nextF n n.next.base := by
 obtain ⟨h1, h2, h3, h4⟩ := log_parts h
 have h5 := next_same h1 h2 hm
 rw [if_pos hm] at h4
 rw [h4] at h5
 have h6 := h5.symm
 simp only [nextOkF, hm, if_true, Bool.and_eq_true] at h6
 simp only [Bool.and_eq_true] at h4
 have h7 := inB_iff.1 h4.1
 exact ⟨h6.1, by omega, by omega, eqHd_eq h4.2⟩
theorem log_less {n : LogN} (h : logOkF n = true) (hm : n.more = false) : n.next = noHead := by
 have h4 := (log_parts h).2.2.2
 rw [hm] at h4
 exact eqHd_eq h4
theorem acks_eq {l m : List Ack} (h : eqN Ack.nums l m = true) : l = m := by
 have h1 : l.map Ack.nums = m.map Ack.nums := of_decide_eq_true h
 have key : ∀ {l m : List Ack}, l.map Ack.nums = m.map Ack.nums → l = m := by
  intro l
  induction l with
  | nil => intro m h; cases m with
   | nil => rfl
   | cons _ _ => simp at h
  | cons a l ih =>
   intro m h
   cases m with
   | nil => simp at h
   | cons b m =>
    simp only [List.map_cons, List.cons.injEq] at h
    rw [Ack.ext' h.1, ih h.2]
 exact key h1
theorem log_owe {n : LogN} (h : logOkF n = true) : n.owe = (partF n.book (n.durable + 1) 2000).map ackF := acks_eq (log_parts h).2.2.1
theorem log_small {n : LogN} (h : logOkF n = true) : n.head.seen.length ≤ 4 ∧ n.next.seen.length ≤ 4 ∧ n.book.entries.length ≤ 20 ∧ n.seen.length ≤ 4 ∧ n.owe.length ≤ 20 := by
 obtain ⟨hk, hh, hb, _⟩ := log_all h
 have h1 := book_bd hb
 refine ⟨seen_len (head_bd hh).2.2.2.2, ?_, h1.2.2.1, seen_len (of_sok (log_seen h).2.2), ?_⟩
 ·cases hm : n.more
  ·rw [log_less h hm]; decide
  ·exact seen_len (head_bd (log_next h hm).1).2.2.2.2
 ·rw [log_owe h, List.length_map]
  have : (partF n.book (n.durable + 1) 2000).length ≤ n.book.entries.length := List.length_filter_le _ _
  omega
theorem log_two {n : LogN} (h : logOkF n = true) : twoOk n.two = true := (keptOk_iff.1 (log_all h).1).1
theorem log_sm {n : LogN} (h : logOkF n = true) : smL n := by
 obtain ⟨h1, h2, h3, h4, h5⟩ := log_small h
 exact ⟨smT_ok (log_two h), by omega, by omega, by omega, by omega, by omega⟩
theorem zeroL_sm : smL zeroL := ⟨smT_zero, by decide, by decide, by decide, by decide, by decide⟩
theorem c_l8Entries (l : List Entry) (h : l.length ≤ 1048576) : Pure Tryz.prog 197 [one (entries l)] [one' (entriesR l)] := by
 refine pure_intro (N := 6) Tryz.func197 rfl rfl rfl rfl (fun H w => ?_)
 refine sq (rg (xs rfl rfl (nl (et (sq (rg (evl_e (e_lit ttOk rfl rfl rfl) (xm rfl rfl (evl_e (e_app_c ttOk rfl rfl rfl rfl rfl (flat_entries _) (by simp; omega) rfl rfl) (xs rfl rfl (nl (et (ev_ret (ret_pure' ttOk rfl rfl ?_))))))))))))))
 rfl
theorem c_l8Copy (b : Book) (h : b.entries.length ≤ 1048576) : Pure Tryz.prog 126 [many (bookC b)] [many' (bookR b)] := by
 refine pure_intro (N := 11) Tryz.func126 rfl rfl rfl rfl (fun H w => ?_)
 refine sq (rg (evl_e (e_box rfl rfl rfl rfl) (evl_e (e_alloc ttOk rfl rfl rfl rfl) (nl (et (sq (ev_drawq [8] mo (rk0 0 rfl (q_fieldAddr ttOk rfl) rfl (rk0 1 rfl (q_load ttOk rfl) rfl (rk0 2 rfl (q_fieldAddr ttOk rfl) rfl (rk0 3 rfl (q_load ttOk rfl) rfl (rk0 4 rfl (q_fieldAddr ttOk rfl) rfl (rk0 5 rfl (q_load ttOk rfl) rfl (rdk_one 6 kr (rdo_call (nm := 9) rfl trivial (cf rfl) (c_l8Entries b.entries h) (rs_of rfl) rfl rfl rfl (rk0 7 rfl (q_build ttOk rfl) rfl (rdk_one 8 kr (rdo_brk rfl rfl trivial (e_store ttOk rfl) (rdb_endq kr (et (ev_ret (ret_pure' ttOk rfl rfl ?_))))))))))))))))))))))
 rfl
theorem flat_acks (l : List Ack) : ∀ cs ∈ l.map ackC, ∀ c ∈ cs, ∃ x, c = .v x := by
 intro cs h c hc
 obtain ⟨x, _, rfl⟩ := List.mem_map.1 h
 simp only [List.mem_cons, List.not_mem_nil, or_false] at hc
 rcases hc with rfl | rfl | rfl | rfl <;> exact ⟨_, rfl⟩
theorem c_l12Acks (l : List Ack) (h : l.length ≤ 1048576) : Pure Tryz.prog 128 [one (acks l)] [one' (acksR l)] := by
 refine pure_intro (N := 6) Tryz.func128 rfl rfl rfl rfl (fun H w => ?_)
 refine sq (rg (xs rfl rfl (nl (et (sq (rg (evl_e (e_lit ttOk rfl rfl rfl) (xm rfl rfl (evl_e (e_app_c ttOk rfl rfl rfl rfl rfl (flat_acks _) (by simp; omega) rfl rfl) (xs rfl rfl (nl (et (ev_ret (ret_pure' ttOk rfl rfl ?_))))))))))))))
 rfl
theorem c_l10Head (h : Head) (hs : h.seen.length ≤ 1048576) : Pure Tryz.prog 125 [many (headC h)] [many' (headR h)] := by
 refine pure_intro (N := 13) Tryz.func125 rfl rfl rfl rfl (fun H w => ?_)
 refine sq (rg (evl_e (e_box rfl rfl rfl rfl) (evl_e (e_alloc ttOk rfl rfl rfl rfl) (nl (et (sq (ev_drawq [10] mo (rk0 0 rfl (q_fieldAddr ttOk rfl) rfl (rk0 1 rfl (q_load ttOk rfl) rfl (rk0 2 rfl (q_fieldAddr ttOk rfl) rfl (rk0 3 rfl (q_load ttOk rfl) rfl (rk0 4 rfl (q_fieldAddr ttOk rfl) rfl (rk0 5 rfl (q_load ttOk rfl) rfl (rk0 6 rfl (q_fieldAddr ttOk rfl) rfl (rk0 7 rfl (q_load ttOk rfl) rfl (rdk_one 8 kr (rdo_call (nm := 11) rfl trivial (cf rfl) (c_l9Copy h.seen hs) (rs_of rfl) rfl rfl rfl (rk0 9 rfl (q_build ttOk rfl) rfl (rdk_one 10 kr (rdo_brk rfl rfl trivial (e_store ttOk rfl) (rdb_endq kr (et (ev_ret (ret_pure' ttOk rfl rfl ?_))))))))))))))))))))))))
 rfl
theorem c_copyHead (h : Head) (hs : h.seen.length ≤ 1048576) : Pure Tryz.prog 140 [many (headC h)] [many' (headR h)] := by
 refine pure_intro (N := 13) Tryz.func140 rfl rfl rfl rfl (fun H w => ?_)
 refine sq (rg (evl_e (e_box rfl rfl rfl rfl) (evl_e (e_alloc ttOk rfl rfl rfl rfl) (nl (et (sq (ev_drawq [10] mo (rk0 0 rfl (q_fieldAddr ttOk rfl) rfl (rk0 1 rfl (q_load ttOk rfl) rfl (rk0 2 rfl (q_fieldAddr ttOk rfl) rfl (rk0 3 rfl (q_load ttOk rfl) rfl (rk0 4 rfl (q_fieldAddr ttOk rfl) rfl (rk0 5 rfl (q_load ttOk rfl) rfl (rk0 6 rfl (q_fieldAddr ttOk rfl) rfl (rk0 7 rfl (q_load ttOk rfl) rfl (rdk_one 8 kr (rdo_call (nm := 11) rfl trivial (cf rfl) (c_copySeen h.seen hs) (rs_of rfl) rfl rfl rfl (rk0 9 rfl (q_build ttOk rfl) rfl (rdk_one 10 kr (rdo_brk rfl rfl trivial (e_store ttOk rfl) (rdb_endq kr (et (ev_ret (ret_pure' ttOk rfl rfl ?_))))))))))))))))))))))))
 rfl
theorem c_l12Copy (n : LogN) (h : logOkF n = true) : Pure Tryz.prog 54 [many (logC n)] [many' (logR (n))] := by
 refine pure_intro (N := 26) Tryz.func54 rfl rfl rfl rfl (fun H w => ?_)
 have hsm := log_small h
 refine sq (rg (evl_e (e_box rfl rfl rfl rfl) (evl_e (e_alloc ttOk rfl rfl rfl rfl) (nl (et (sq (ev_drawq [23] mo (rk0 0 rfl (q_fieldAddr ttOk rfl) rfl (rk0 1 rfl (q_load ttOk rfl) rfl (rk0 3 rfl (q_fieldAddr ttOk rfl) rfl (rk0 4 rfl (q_load ttOk rfl) rfl (rk0 6 rfl (q_fieldAddr ttOk rfl) rfl (rk0 7 rfl (q_load ttOk rfl) rfl (rk0 9 rfl (q_fieldAddr ttOk rfl) rfl (rk0 10 rfl (q_load ttOk rfl) rfl (rk0 11 rfl (q_fieldAddr ttOk rfl) rfl (rk0 12 rfl (q_load ttOk rfl) rfl (rk0 14 rfl (q_fieldAddr ttOk rfl) rfl (rk0 15 rfl (q_load ttOk rfl) rfl (rk0 17 rfl (q_fieldAddr ttOk rfl) rfl (rk0 18 rfl (q_load ttOk rfl) rfl (rk0 19 rfl (q_fieldAddr ttOk rfl) rfl (rk0 20 rfl (q_load ttOk rfl) rfl (rdk_one 2 kr (rdo_call (nm := 5) rfl trivial (cf rfl) (c_l4Copy n.two (log_two h)) (rs_of rfl) rfl rfl rfl (rdk_one 5 kr ?_))))))))))))))))))))))))))
 first | refine rdo_call (nm := 8) rfl trivial (cf rfl) (c_l10Head n.head om) (rs_of rfl) rfl rfl rfl ?_ | refine rdo_call (nm := 8) rfl trivial (cf rfl) (c_l10Head n.next om) (rs_of rfl) rfl rfl rfl ?_
 refine rdk_one 8 kr ?_
 first | refine rdo_call (nm := 11) rfl trivial (cf rfl) (c_l10Head n.head om) (rs_of rfl) rfl rfl rfl ?_ | refine rdo_call (nm := 11) rfl trivial (cf rfl) (c_l10Head n.next om) (rs_of rfl) rfl rfl rfl ?_
 refine rdk_one 13 kr (rdo_call (nm := 16) rfl trivial (cf rfl) (c_l8Copy n.book om) (rs_of rfl) rfl rfl rfl (rdk_one 16 kr (rdo_call (nm := 19) rfl trivial (cf rfl) (c_l9Copy n.seen om) (rs_of rfl) rfl rfl rfl (rdk_one 21 kr (rdo_call (nm := 24) rfl trivial (cf rfl) (c_l12Acks n.owe om) (rs_of rfl) rfl rfl rfl (rk0 22 rfl (q_build ttOk rfl) rfl (rdk_one 23 kr (rdo_brk rfl rfl trivial (e_store ttOk rfl) (rdb_endq kr (et (ev_ret (ret_pure' ttOk rfl rfl ?_))))))))))))
 rfl
theorem c_copyLog (n : LogN) (h : logOkF n = true) : Pure Tryz.prog 62 [many (logC n)] [many' (logR (n))] := by
 refine pure_intro (N := 27) Tryz.func62 rfl rfl rfl rfl (fun H w => ?_)
 have hsm := log_small h
 refine sq (rg (evl_e (e_box rfl rfl rfl rfl) (evl_e (e_alloc ttOk rfl rfl rfl rfl) (nl (et (sq (ev_frz (cs := logC n) 1 rfl rfl rfl (fun HF1_0 hHF1_0 => ?_))))))))
 refine' ev_drawhJ mo ?hdr1 ?kdr1
 case hdr1 =>
  refine rdh_take 0 rfl kr trivial (QuietW.h (qw_fieldAddr ttOk rfl)) rfl (rdh_take 1 rfl kr trivial (q_loadH ttOk rfl rfl) rfl (rdh_take 3 rfl kr trivial (QuietW.h (qw_fieldAddr ttOk rfl)) rfl (rdh_take 4 rfl kr trivial (q_loadH ttOk rfl rfl) rfl (rdh_take 6 rfl kr trivial (QuietW.h (qw_fieldAddr ttOk rfl)) rfl (rdh_take 7 rfl kr trivial (q_loadH ttOk rfl rfl) rfl (rdh_take 9 rfl kr trivial (QuietW.h (qw_fieldAddr ttOk rfl)) rfl (rdh_take 10 rfl kr trivial (q_loadH ttOk rfl rfl) rfl (rdh_take 11 rfl kr trivial (QuietW.h (qw_fieldAddr ttOk rfl)) rfl (rdh_take 12 rfl kr trivial (q_loadH ttOk rfl rfl) rfl (rdh_take 14 rfl kr trivial (QuietW.h (qw_fieldAddr ttOk rfl)) rfl (rdh_take 15 rfl kr trivial (q_loadH ttOk rfl rfl) rfl (rdh_take 17 rfl kr trivial (QuietW.h (qw_fieldAddr ttOk rfl)) rfl (rdh_take 18 rfl kr trivial (q_loadH ttOk rfl rfl) rfl (rdh_take 20 rfl kr trivial (QuietW.h (qw_fieldAddr ttOk rfl)) rfl (rdh_take 21 rfl kr trivial (q_loadH ttOk rfl rfl) rfl (rdh_2 2 19 kr ?_ ?_))))))))))))))))
  ·refine rdho_call (nm := 5) rfl trivial (cf rfl) (c_copyTwo n.two (log_two h)) (rs_of rfl) rfl rfl rfl (rdh_2 5 19 kr ?_ ?_)
   ·first | refine rdho_call (nm := 8) rfl trivial (cf rfl) (c_copyHead n.head om) (rs_of rfl) rfl rfl rfl ?_ | refine rdho_call (nm := 8) rfl trivial (cf rfl) (c_copyHead n.next om) (rs_of rfl) rfl rfl rfl ?_
    refine rdh_2 8 19 kr ?_ ?_
    ·first | refine rdho_call (nm := 11) rfl trivial (cf rfl) (c_copyHead n.head om) (rs_of rfl) rfl rfl rfl ?_ | refine rdho_call (nm := 11) rfl trivial (cf rfl) (c_copyHead n.next om) (rs_of rfl) rfl rfl rfl ?_
     refine rdh_2 13 19 kr ?_ ?_
     ·refine rdho_call (nm := 16) rfl trivial (cf rfl) (c_copyBook n.book om) (rs_of rfl) rfl rfl rfl (rdh_2 16 19 kr ?_ ?_)
      ·refine rdho_call (nm := 19) rfl trivial (cf rfl) (c_copySeen n.seen om) (rs_of rfl) rfl rfl rfl (rdh_1 19 kr (rdho_eff rfl trivial (e_lit ttOk rfl rfl rfl) (rdh_1 22 kr (rdho_eff rfl trivial (e_app_c ttOk rfl rfl rfl rfl rfl (flat_acks _) (by simp; omega) rfl rfl) (rdh_1 23 kr (rdho_q rfl trivial (q_build ttOk rfl) rfl (rdh_1 24 kr (rdho_eff rfl trivial (e_store ttOk rfl) ?_))))))))
       exact rdh_fin kr
      ·refine rdho_eff rfl trivial (e_lit ttOk rfl rfl rfl) (rdh_1 16 kr (rdho_call (nm := 19) rfl trivial (cf rfl) (c_copySeen n.seen om) (rs_of rfl) rfl rfl rfl (rdh_1 22 kr (rdho_eff rfl trivial (e_app_c ttOk rfl rfl rfl rfl rfl (flat_acks _) (by simp; omega) rfl rfl) (rdh_1 23 kr (rdho_q rfl trivial (q_build ttOk rfl) rfl (rdh_1 24 kr (rdho_eff rfl trivial (e_store ttOk rfl) ?_))))))))
       exact rdh_le [] kr lei
     ·refine rdho_eff rfl trivial (e_lit ttOk rfl rfl rfl) (rdh_1 13 kr (rdho_call (nm := 16) rfl trivial (cf rfl) (c_copyBook n.book om) (rs_of rfl) rfl rfl rfl (rdh_1 16 kr (rdho_call (nm := 19) rfl trivial (cf rfl) (c_copySeen n.seen om) (rs_of rfl) rfl rfl rfl (rdh_1 22 kr (rdho_eff rfl trivial (e_app_c ttOk rfl rfl rfl rfl rfl (flat_acks _) (by simp; omega) rfl rfl) (rdh_1 23 kr (rdho_q rfl trivial (q_build ttOk rfl) rfl (rdh_1 24 kr (rdho_eff rfl trivial (e_store ttOk rfl) ?_))))))))))
      exact rdh_le [] kr lei
    ·refine rdho_eff rfl trivial (e_lit ttOk rfl rfl rfl) (rdh_1 8 kr ?_)
     first | refine rdho_call (nm := 11) rfl trivial (cf rfl) (c_copyHead n.head om) (rs_of rfl) rfl rfl rfl ?_ | refine rdho_call (nm := 11) rfl trivial (cf rfl) (c_copyHead n.next om) (rs_of rfl) rfl rfl rfl ?_
     refine rdh_1 13 kr (rdho_call (nm := 16) rfl trivial (cf rfl) (c_copyBook n.book om) (rs_of rfl) rfl rfl rfl (rdh_1 16 kr (rdho_call (nm := 19) rfl trivial (cf rfl) (c_copySeen n.seen om) (rs_of rfl) rfl rfl rfl (rdh_1 22 kr (rdho_eff rfl trivial (e_app_c ttOk rfl rfl rfl rfl rfl (flat_acks _) (by simp; omega) rfl rfl) (rdh_1 23 kr (rdho_q rfl trivial (q_build ttOk rfl) rfl (rdh_1 24 kr (rdho_eff rfl trivial (e_store ttOk rfl) ?_)))))))))
     exact rdh_le [] kr lei
   ·refine rdho_eff rfl trivial (e_lit ttOk rfl rfl rfl) (rdh_1 5 kr ?_)
    first | refine rdho_call (nm := 8) rfl trivial (cf rfl) (c_copyHead n.head om) (rs_of rfl) rfl rfl rfl ?_ | refine rdho_call (nm := 8) rfl trivial (cf rfl) (c_copyHead n.next om) (rs_of rfl) rfl rfl rfl ?_
    refine rdh_1 8 kr ?_
    first | refine rdho_call (nm := 11) rfl trivial (cf rfl) (c_copyHead n.head om) (rs_of rfl) rfl rfl rfl ?_ | refine rdho_call (nm := 11) rfl trivial (cf rfl) (c_copyHead n.next om) (rs_of rfl) rfl rfl rfl ?_
    refine rdh_1 13 kr (rdho_call (nm := 16) rfl trivial (cf rfl) (c_copyBook n.book om) (rs_of rfl) rfl rfl rfl (rdh_1 16 kr (rdho_call (nm := 19) rfl trivial (cf rfl) (c_copySeen n.seen om) (rs_of rfl) rfl rfl rfl (rdh_1 22 kr (rdho_eff rfl trivial (e_app_c ttOk rfl rfl rfl rfl rfl (flat_acks _) (by simp; omega) rfl rfl) (rdh_1 23 kr (rdho_q rfl trivial (q_build ttOk rfl) rfl (rdh_1 24 kr (rdho_eff rfl trivial (e_store ttOk rfl) ?_)))))))))
    exact rdh_le [] kr lei
  ·refine rdho_eff rfl trivial (e_lit ttOk rfl rfl rfl) (rdh_1 2 kr (rdho_call (nm := 5) rfl trivial (cf rfl) (c_copyTwo n.two (log_two h)) (rs_of rfl) rfl rfl rfl (rdh_1 5 kr ?_)))
   first | refine rdho_call (nm := 8) rfl trivial (cf rfl) (c_copyHead n.head om) (rs_of rfl) rfl rfl rfl ?_ | refine rdho_call (nm := 8) rfl trivial (cf rfl) (c_copyHead n.next om) (rs_of rfl) rfl rfl rfl ?_
   refine rdh_1 8 kr ?_
   first | refine rdho_call (nm := 11) rfl trivial (cf rfl) (c_copyHead n.head om) (rs_of rfl) rfl rfl rfl ?_ | refine rdho_call (nm := 11) rfl trivial (cf rfl) (c_copyHead n.next om) (rs_of rfl) rfl rfl rfl ?_
   refine rdh_1 13 kr (rdho_call (nm := 16) rfl trivial (cf rfl) (c_copyBook n.book om) (rs_of rfl) rfl rfl rfl (rdh_1 16 kr (rdho_call (nm := 19) rfl trivial (cf rfl) (c_copySeen n.seen om) (rs_of rfl) rfl rfl rfl (rdh_1 22 kr (rdho_eff rfl trivial (e_app_c ttOk rfl rfl rfl rfl rfl (flat_acks _) (by simp; omega) rfl rfl) (rdh_1 23 kr (rdho_q rfl trivial (q_build ttOk rfl) rfl (rdh_1 24 kr (rdho_eff rfl trivial (e_store ttOk rfl) ?_)))))))))
   exact rdh_le [] kr lei
 refine et (ev_ret (retH rfl (ret_pure' ttOk rfl rfl ?_)))
 rfl
def keptRowF (t : Two) (x : Int) (row : List Int) : Two × Bool := if keptOk t then bothWroteF t x row else (zeroT, false)
theorem wrote_ok {d : Disk} {x : Int} {row : List Int} (h : diskOk d = true) : diskOk (wroteF d x row).1 = true := by
 cases h2 : wroteOk d x row
 ·rw [wrote_fail h h2]; exact h
 ·rw [wrote_yes h h2]
  have h1 := diskOk_sizes h
  simp only [wroteOk, Bool.and_eq_true, decide_eq_true_eq] at h2
  simp only [diskOk, Bool.and_eq_true, decide_eq_true_eq, List.all_eq_true, List.length_append, List.length_singleton]
  refine ⟨by omega, by omega, by omega, h1.2.2.2.1, fun y hy => ?_⟩
  rcases List.mem_append.1 hy with hy | hy
  ·have := h1.2.2.2.2 y hy
   simpa [writeOk, hasAt] using this
  ·rw [List.mem_singleton.1 hy]
   simp only [writeOk, Bool.and_eq_true]
   exact ⟨h2.1, h2.2.1⟩
theorem wrote_len {d : Disk} {x : Int} {row : List Int} (h : diskOk d = true) : (wroteF d x row).1.kept = d.kept := by
 cases h2 : wroteOk d x row
 ·rw [wrote_fail h h2]
 ·rw [wrote_yes h h2]
theorem both_ok {t : Two} {x : Int} {row : List Int} (h : twoOk t = true) : twoOk (bothWroteF t x row).1 = true := by
 obtain ⟨h1, h2, h3⟩ := twoOk_iff.1 h
 unfold bothWroteF
 rw [h]
 simp only [if_true]
 split
 ·exact twoOk_iff.2 ⟨wrote_ok h1, wrote_ok h2, by rw [wrote_len h1, wrote_len h2, h3]⟩
 ·exact h
theorem c_keptRow (t : Two) (x : Int) (row : List Int) (hr : row ≠ []) : Pure Tryz.prog 176 [many (twoC t), one (iC x), one (ints row)] [many' (twoR ((keptRowF t x row).1)), one' (RC.v (.bool ((keptRowF t x row).2)))] := by
 refine pure_intro (N := 22) Tryz.func176 rfl rfl rfl rfl (fun H w => ?_)
 refine sq (rg (evl_e (e_box rfl rfl rfl rfl) (evl_e (e_alloc ttOk rfl rfl rfl rfl) (xs rfl rfl (nl (et (sq (sq (rg (xl ttOk rfl rfl (evl_call (nm := 9) (cf rfl) (c_KeptOk' t) (rs_of rfl) rfl rfl rfl (xo (q_not rfl) rfl (nl (et (ev_cond_n rfl (fun h1 => ?_) (fun h1 => ?_))))))))))))))))
 ·refine sq (rg (xo (q_build ttOk rfl) rfl (xst ttOk rfl rfl (xs rfl rfl (nl (et (ev_ret (evr_then (ret_pureN ttOk rfl rfl ?_)))))))))
  first
  | (rw [show keptRowF t x row = (zeroT, false) by simp only [keptRowF]; rw [h1]; rfl]; simp [RpLe, L2, RcLe, zeroD, zeroT]; done)
  | (rw [show keptRowF t x row = bothWroteF t x row by simp only [keptRowF]; rw [h1]; rfl]; simp [RpLe, L2, RcLe]; done)
 ·refine ev_skip (et (sq (sq (rg (xm rfl rfl (xo (q_nilv ttOk rfl rfl rfl (by simpa using hr) rfl rfl) rfl (nl (et (ev_cond_kf rfl (by first | rfl | assumption | exact nt ‹_› | exact nf ‹_›) (ev_skip (et (sq (rg (xl ttOk rfl rfl (xm rfl rfl (xm rfl rfl (evl_call (nm := 19) (cf rfl) (c_BothWrote' t x row) (rs_of rfl) rfl rfl rfl (xo (q_ext rfl) rfl (xo (q_ext rfl) rfl (xst ttOk rfl rfl (xs rfl rfl (nl (et (ev_ret (ret_pureN ttOk rfl rfl ?_)))))))))))))))))))))))))
  first
  | (rw [show keptRowF t x row = (zeroT, false) by simp only [keptRowF]; rw [h1]; rfl]; simp [RpLe, L2, RcLe, zeroD, zeroT]; done)
  | (rw [show keptRowF t x row = bothWroteF t x row by simp only [keptRowF]; rw [h1]; rfl]; simp [RpLe, L2, RcLe]; done)
def slotF (x : Int) : Int := 2 + x % 20
def timeB (b : Book) : Int := timeAtF b (lastB b)
theorem timeB_nil {b : Book} (h : b.entries.length = 0) : timeB b = b.time := by
 unfold timeB timeAtF lastB
 rw [if_pos om]
theorem timeB_last {b : Book} {m : Nat} (h : b.entries.length = m + 1) : timeB b = b.entries[m].time := by
 unfold timeB timeAtF
 rw [if_neg (by unfold lastB; omega), atB_eq (m := m) (by unfold lastB; omega) om]
def fitsF (b : Book) (e : Entry) : Bool := entryOk e && (decide (e.index = lastB b + 1) && (decide (e.time ≥ timeB b) && decide (b.entries.length < 20)))
theorem fits_iff {b : Book} {e : Entry} : fitsF b e = true ↔ entryOk e = true ∧ e.index = lastB b + 1 ∧ e.time ≥ timeB b ∧ b.entries.length < 20 := by simp [fitsF]
def appF (b : Book) (e : Entry) : Book := ⟨b.base, b.time, b.entries ++ [e]⟩
def appendedF (b : Book) (e : Entry) : Book × Bool := if bookOk b then if fitsF b e then (appF b e, true) else (b, false) else (⟨0, 0, []⟩, false)
theorem apd_no {b : Book} {e : Entry} (h : bookOk b = false) : appendedF b e = (⟨0, 0, []⟩, false) := by simp [appendedF, h]
theorem apd_fail {b : Book} {e : Entry} (h : bookOk b = true) (h2 : fitsF b e = false) : appendedF b e = (b, false) := by simp [appendedF, h, h2]
theorem apd_yes {b : Book} {e : Entry} (h : bookOk b = true) (h2 : fitsF b e = true) : appendedF b e = (appF b e, true) := by simp [appendedF, h, h2]
theorem over_one {l : List Mark} {e : Entry} : seenOverF l [e] = markedF l e := by
 cases h : seenOk l
 ·rw [so1 h, mk_no0 h]
 ·cases hf : freshF l e
  ·rw [mk_no h hf, so3 h]
   simp [overL, hf]
  ·rw [mk_yes h hf, so4 h (by simp)]
   simp [overL, hf]
theorem c_SlotOf (x : Int) : Pure Tryz.prog 200 [one (iC x)] (iR (if indexOk x then slotF x else -1)) := by
 refine pure_intro (N := 9) Tryz.func200 rfl rfl rfl rfl (fun H w => ?_)
 refine sq (rg (xs rfl rfl (nl (et (sq (sq (rg (xm rfl rfl (evl_call (nm := 4) (cf rfl) (c_indexOk _) (rs_of rfl) rfl rfl rfl (xo (q_not rfl) rfl (nl (et (ev_cond_n rfl (fun h1 => ?_) (fun h1 => ?_))))))))))))))
 ·refine sq (rg (xs rfl rfl (nl (et (ev_ret (evr_then (ret_pure' ttOk rfl rfl ?_)))))))
  first
  | (rw [show indexOk x = false by assumption]; rfl)
  | (rw [show indexOk x = true by assumption]; rfl)
 ·have hx := inB_iff.1 (show inB x 1 2000 = true by assumption)
  refine ev_skip (et (sq (rg (xm rfl rfl (xo (q_rem_pos rfl rfl om) rfl (xa rfl rfl rfl om rfl (xs rfl rfl (nl (et (ev_ret (ret_pure' ttOk rfl rfl ?_)))))))))))
  first
  | (rw [show indexOk x = false by assumption]; rfl)
  | (rw [show indexOk x = true by assumption]; rfl)
theorem c_slotOf (x : Int) (hx : 0 ≤ x ∧ x ≤ 100000) : Pure Tryz.prog 184 [one (iC x)] (iR (slotF x)) := by
 refine pure_intro (N := 6) Tryz.func184 rfl rfl rfl rfl (fun H w => ?_)
 refine sq (rg (xs rfl rfl (nl (et (sq (rg (xm rfl rfl (xo (q_rem_pos rfl rfl om) rfl (xa rfl rfl rfl om rfl (xs rfl rfl (nl (et (ev_ret (ret_pure' ttOk rfl rfl ?_))))))))))))))
 rfl
theorem c_timeOf (b : Book) (hb : bookOk b = true) : Pure Tryz.prog 146 [many (bookC b)] (iR (timeB b)) := by
 refine pure_intro (N := 18) Tryz.func146 rfl rfl rfl rfl (fun H w => ?_)
 have hbd := book_bd hb
 refine sq (rg (evl_e (e_box rfl rfl rfl rfl) (xs rfl rfl (nl (et (sq (sq (rg (xf ttOk rfl rfl (xl ttOk rfl rfl (xo (q_len_map ttOk rfl rfl) rfl (xb ttOk rfl rfl (nl (et (ev_cond rfl (fun h1 => ?_) (fun h1 => ?_))))))))))))))))
 ·try have d1 := of_decide_eq_true h1
  refine sq (rg (xf ttOk rfl rfl (xl ttOk rfl rfl (xs rfl rfl (nl (et (ev_ret (evr_then (ret_pure' ttOk rfl rfl ?_)))))))))
  rw [timeB_nil om]
 ·try have d1 := of_decide_eq_false h1
  refine ev_skip (et (sq ?_))
  obtain ⟨m, hm⟩ : ∃ m, b.entries.length = m + 1 := ⟨b.entries.length - 1, by omega⟩
  refine rg (xf ttOk rfl rfl (xl ttOk rfl rfl (xf ttOk rfl rfl (xl ttOk rfl rfl (xo (q_len_map ttOk rfl rfl) rfl (xa rfl rfl rfl om rfl (xo (q_ix_map (m := m) ttOk rfl rfl rfl om om) rfl (xf ttOk rfl rfl (xl ttOk rfl rfl (xs rfl rfl (nl (et (ev_ret (ret_pure' ttOk rfl rfl ?_))))))))))))))
  rw [timeB_last hm]
theorem c_fits (b : Book) (e : Entry) (hb : bookOk b = true) : Pure Tryz.prog 147 [many (bookC b), many (entryC e)] (bR (fitsF b e)) := by
 refine pure_intro (N := 28) Tryz.func147 rfl rfl rfl rfl (fun H w => ?_)
 have hbd := book_bd hb
 have hla : lastB b = b.base + b.entries.length := rfl
 refine sq (rg (evl_e (e_box rfl rfl rfl rfl) (evl_e (e_box rfl rfl rfl rfl) (xs rfl rfl (nl (et (sq (ev_drawq [] mo (rk0 0 rfl (q_load ttOk rfl) rfl (rdk_one 1 kr (rdo_call (nm := 6) rfl trivial (cf rfl) (c_EntryOk' e) (rs_of rfl) rfl rfl rfl (rk0 2 rfl (q_move rfl) rfl (rdk_part (t := 7) rfl (fun h1 => ?_) (fun h1 => ?_))))))))))))))
 ·refine rkt 3 rfl rfl rfl h1 (q_fieldAddr ttOk rfl) rfl (rkt 4 rfl rfl rfl h1 (q_load ttOk rfl) rfl (rkt 5 rfl rfl rfl h1 (q_load ttOk rfl) rfl (rdk_one 6 kr (rdo_call (nm := 11) rfl ⟨_, _, rfl, rfl, h1⟩ (cf rfl) (c_lastOf b hb) (rs_of rfl) rfl rfl rfl (rkt 7 rfl rfl rfl h1 (q_ar rfl rfl rfl om) rfl (rkt 8 rfl rfl rfl h1 (q_bin ttOk rfl) rfl (rk0 9 rfl (q_pick_t rfl h1 rfl) rfl (rk0 10 rfl (q_move rfl) rfl (rdk_part (t := 15) rfl (fun h2 => ?_) (fun h2 => ?_))))))))))
  ·refine rkt 11 rfl rfl rfl h2 (q_fieldAddr ttOk rfl) rfl (rkt 12 rfl rfl rfl h2 (q_load ttOk rfl) rfl (rkt 13 rfl rfl rfl h2 (q_load ttOk rfl) rfl (rdk_one 14 kr (rdo_call (nm := 19) rfl ⟨_, _, rfl, rfl, h2⟩ (cf rfl) (c_timeOf b hb) (rs_of rfl) rfl rfl rfl (rkt 15 rfl rfl rfl h2 (q_bin ttOk rfl) rfl (rk0 16 rfl (q_pick_t rfl h2 rfl) rfl (rk0 17 rfl (q_move rfl) rfl (rdk_part (t := 22) rfl (fun h3 => ?_) (fun h3 => ?_)))))))))
   ·refine rkt 18 rfl rfl rfl h3 (q_fieldAddr ttOk rfl) rfl (rkt 19 rfl rfl rfl h3 (q_load ttOk rfl) rfl (rkt 20 rfl rfl rfl h3 (q_len_map ttOk rfl rfl) rfl (rkt 21 rfl rfl rfl h3 (q_bin ttOk rfl) rfl (rk0 22 rfl (q_pick_t rfl h3 rfl) rfl (rk0 23 rfl (q_assign rfl) rfl (rdk_endq kr (et (ev_ret (ret_pure' ttOk rfl rfl (congrArg bR (?_ : _ = _)))))))))))
    simp_all [fitsF] <;> (intros; omega)
   ·refine rks 18 rfl rfl rfl h3 rfl (rks 19 rfl rfl rfl h3 rfl (rks 20 rfl rfl rfl h3 rfl (rks 21 rfl rfl rfl h3 rfl (rk0 22 rfl (q_pick_f rfl h3 rfl) rfl (rk0 23 rfl (q_assign rfl) rfl (rdk_endq kr (et (ev_ret (ret_pure' ttOk rfl rfl (congrArg bR (?_ : _ = _)))))))))))
    simp_all [fitsF] <;> (intros; omega)
  ·refine rks 11 rfl rfl rfl h2 rfl (rks 12 rfl rfl rfl h2 rfl (rks 13 rfl rfl rfl h2 rfl (rks 14 rfl rfl rfl h2 rfl (rks 15 rfl rfl rfl h2 rfl (rk0 16 rfl (q_pick_f rfl h2 rfl) rfl (rk0 17 rfl (q_move rfl) rfl (rks 18 rfl rfl rfl rfl rfl (rks 19 rfl rfl rfl rfl rfl (rks 20 rfl rfl rfl rfl rfl (rks 21 rfl rfl rfl rfl rfl (rk0 22 rfl (q_pick_f rfl rfl rfl) rfl (rk0 23 rfl (q_assign rfl) rfl (rdk_endq kr (et (ev_ret (ret_pure' ttOk rfl rfl (congrArg bR (?_ : _ = _))))))))))))))))))
   simp_all [fitsF] <;> (intros; omega)
 ·refine rks 3 rfl rfl rfl h1 rfl (rks 4 rfl rfl rfl h1 rfl (rks 5 rfl rfl rfl h1 rfl (rks 6 rfl rfl rfl h1 rfl (rks 7 rfl rfl rfl h1 rfl (rks 8 rfl rfl rfl h1 rfl (rk0 9 rfl (q_pick_f rfl h1 rfl) rfl (rk0 10 rfl (q_move rfl) rfl (rks 11 rfl rfl rfl rfl rfl (rks 12 rfl rfl rfl rfl rfl (rks 13 rfl rfl rfl rfl rfl (rks 14 rfl rfl rfl rfl rfl (rks 15 rfl rfl rfl rfl rfl (rk0 16 rfl (q_pick_f rfl rfl rfl) rfl (rk0 17 rfl (q_move rfl) rfl (rks 18 rfl rfl rfl rfl rfl (rks 19 rfl rfl rfl rfl rfl (rks 20 rfl rfl rfl rfl rfl (rks 21 rfl rfl rfl rfl rfl (rk0 22 rfl (q_pick_f rfl rfl rfl) rfl (rk0 23 rfl (q_assign rfl) rfl (rdk_endq kr (et (ev_ret (ret_pure' ttOk rfl rfl (congrArg bR (?_ : _ = _))))))))))))))))))))))))))
  simp_all [fitsF] <;> (intros; omega)
theorem c_Appended (b : Book) (e : Entry) : Pure Tryz.prog 132 [many (bookC b), many (entryC e)] [many' (bookR (appendedF b e).1), one' (RC.v (.bool (appendedF b e).2))] := by
 refine pure_intro (N := 47) Tryz.func132 rfl rfl rfl rfl (fun H w => ?_)
 refine sq (rg (evl_e (e_box rfl rfl rfl rfl) (evl_e (e_box rfl rfl rfl rfl) (evl_e (e_alloc ttOk rfl rfl rfl rfl) (xs rfl rfl (nl (et (sq (sq (rg (xl ttOk rfl rfl (evl_call (nm := 8) (cf rfl) (c_BookOk b) (rs_of rfl) rfl rfl rfl (xo (q_not rfl) rfl (nl (et (ev_cond_n rfl (fun h1 => ?_) (fun h1 => ?_)))))))))))))))))
 ·refine sq (rg (xo (q_build ttOk rfl) rfl (xst ttOk rfl rfl (xs rfl rfl (nl (et (ev_ret (evr_then (ret_pureN ttOk rfl rfl ?_)))))))))
  first
  | (rw [apd_no ‹_›]; simp [RpLe, L2, RcLe]; done)
  | (rw [apd_yes hb (by simp_all [fitsF, timeB] <;> omega)]; simp [RpLe, L2, RcLe, appF]; done)
  | (rw [apd_fail hb (by simp_all [fitsF, timeB] <;> (intros; omega))]; simp [RpLe, L2, RcLe]; done)
 ·have hb : bookOk b = true := h1
  have hbd := book_bd hb
  have hla : lastB b = b.base + b.entries.length := rfl
  refine ev_skip (et (sq (rg (xl ttOk rfl rfl (evl_call (nm := 12) (cf rfl) (c_l8Copy b om) (rs_of rfl) rfl rfl rfl (evl_e (e_alloc ttOk rfl rfl rfl rfl) (xst ttOk rfl rfl (nl (et (sq (sq (ev_drawq [] mo (rk0 0 rfl (q_load ttOk rfl) rfl (rdk_one 1 kr (rdo_call (nm := 14) rfl trivial (cf rfl) (c_EntryOk e) (rs_of rfl) rfl rfl rfl (rk0 2 rfl (q_not rfl) rfl (rk0 3 rfl (q_move rfl) rfl (rdk_partn (t := 16) rfl (fun h2 => ?_) (fun h2 => ?_)))))))))))))))))))
  ·refine rdk_skip 4 rfl kr ⟨_, rfl, .inl ⟨_, rfl, (nt h2)⟩⟩ rfl (rdk_skip 5 rfl kr ⟨_, rfl, .inl ⟨_, rfl, (nt h2)⟩⟩ rfl (rdk_skip 6 rfl kr ⟨_, rfl, .inl ⟨_, rfl, (nt h2)⟩⟩ rfl (rdk_skip 7 rfl kr ⟨_, rfl, .inl ⟨_, rfl, (nt h2)⟩⟩ rfl (rdk_skip 8 rfl kr ⟨_, rfl, .inl ⟨_, rfl, (nt h2)⟩⟩ rfl (rdk_skip 9 rfl kr ⟨_, rfl, .inl ⟨_, rfl, (nt h2)⟩⟩ rfl (rk0 10 rfl (q_pick_t rfl (nt h2) rfl) rfl (rk0 11 rfl (q_move rfl) rfl (rks 12 rfl rfl rfl rfl rfl (rks 13 rfl rfl rfl rfl rfl (rks 14 rfl rfl rfl rfl rfl (rks 15 rfl rfl rfl rfl rfl (rks 16 rfl rfl rfl rfl rfl (rks 17 rfl rfl rfl rfl rfl (rks 18 rfl rfl rfl rfl rfl (rk0 19 rfl (q_pick_t rfl rfl rfl) rfl (rk0 20 rfl (q_move rfl) rfl (rks 21 rfl rfl rfl rfl rfl (rks 22 rfl rfl rfl rfl rfl (rks 23 rfl rfl rfl rfl rfl (rks 24 rfl rfl rfl rfl rfl (rk0 25 rfl (q_pick_t rfl rfl rfl) rfl (rdk_endq kr (et (ev_cond_kt rfl rfl (sq (rg (xl ttOk rfl rfl (xst ttOk rfl rfl (xs rfl rfl (nl (et (ev_ret (evr_then (ret_pureN ttOk rfl rfl ?_))))))))))))))))))))))))))))))))))
   first
   | (rw [apd_no ‹_›]; simp [RpLe, L2, RcLe]; done)
   | (rw [apd_yes hb (by simp_all [fitsF, timeB] <;> omega)]; simp [RpLe, L2, RcLe, appF]; done)
   | (rw [apd_fail hb (by simp_all [fitsF, timeB] <;> (intros; omega))]; simp [RpLe, L2, RcLe]; done)
  ·refine rdk_take 4 rfl kr ⟨_, _, rfl, rfl, (nf h2)⟩ (q_fieldAddr ttOk rfl) rfl (rdk_take 5 rfl kr ⟨_, _, rfl, rfl, (nf h2)⟩ (q_load ttOk rfl) rfl (rdk_take 6 rfl kr ⟨_, _, rfl, rfl, (nf h2)⟩ (q_load ttOk rfl) rfl (rdk_one 7 kr (rdo_call (nm := 20) rfl ⟨_, _, rfl, rfl, (nf h2)⟩ (cf rfl) (c_l8Last b hb) (rs_of rfl) rfl rfl rfl (rdk_take 8 rfl kr ⟨_, _, rfl, rfl, (nf h2)⟩ (q_ar rfl rfl rfl om) rfl (rdk_take 9 rfl kr ⟨_, _, rfl, rfl, (nf h2)⟩ (q_bin ttOk rfl) rfl (rk0 10 rfl (q_pick_f rfl (nf h2) rfl) rfl (rk0 11 rfl (q_move rfl) rfl (rdk_part (t := 24) rfl (fun h3 => ?_) (fun h3 => ?_))))))))))
   ·refine rks 12 rfl rfl rfl h3 rfl (rks 13 rfl rfl rfl h3 rfl (rks 14 rfl rfl rfl h3 rfl (rks 15 rfl rfl rfl h3 rfl (rks 16 rfl rfl rfl h3 rfl (rks 17 rfl rfl rfl h3 rfl (rks 18 rfl rfl rfl h3 rfl (rk0 19 rfl (q_pick_t rfl h3 rfl) rfl (rk0 20 rfl (q_move rfl) rfl (rks 21 rfl rfl rfl rfl rfl (rks 22 rfl rfl rfl rfl rfl (rks 23 rfl rfl rfl rfl rfl (rks 24 rfl rfl rfl rfl rfl (rk0 25 rfl (q_pick_t rfl rfl rfl) rfl (rdk_endq kr (et (ev_cond_kt rfl rfl (sq (rg (xl ttOk rfl rfl (xst ttOk rfl rfl (xs rfl rfl (nl (et (ev_ret (evr_then (ret_pureN ttOk rfl rfl ?_))))))))))))))))))))))))))
    first
    | (rw [apd_no ‹_›]; simp [RpLe, L2, RcLe]; done)
    | (rw [apd_yes hb (by simp_all [fitsF, timeB] <;> omega)]; simp [RpLe, L2, RcLe, appF]; done)
    | (rw [apd_fail hb (by simp_all [fitsF, timeB] <;> (intros; omega))]; simp [RpLe, L2, RcLe]; done)
   ·refine rkt 12 rfl rfl rfl h3 (q_fieldAddr ttOk rfl) rfl (rkt 13 rfl rfl rfl h3 (q_load ttOk rfl) rfl (rkt 14 rfl rfl rfl h3 (q_load ttOk rfl) rfl (rkt 15 rfl rfl rfl h3 (q_load ttOk rfl) rfl (rdk_one 16 kr (rdo_call (nm := 29) rfl ⟨_, _, rfl, rfl, h3⟩ (cf rfl) (c_l8Last b hb) (rs_of rfl) rfl rfl rfl (rdk_one 17 kr (rdo_call (nm := 30) rfl ⟨_, _, rfl, rfl, h3⟩ (cf rfl) (c_l8TimeAt b (lastB b) hb ⟨by omega, by omega⟩) (rs_of rfl) rfl rfl rfl (rkt 18 rfl rfl rfl h3 (q_bin ttOk rfl) rfl (rk0 19 rfl (q_pick_f rfl h3 rfl) rfl (rk0 20 rfl (q_move rfl) rfl (rdk_part (t := 33) rfl (fun h4 => ?_) (fun h4 => ?_))))))))))))
    ·refine rks 21 rfl rfl rfl h4 rfl (rks 22 rfl rfl rfl h4 rfl (rks 23 rfl rfl rfl h4 rfl (rks 24 rfl rfl rfl h4 rfl (rk0 25 rfl (q_pick_t rfl h4 rfl) rfl (rdk_endq kr (et (ev_cond_kt rfl rfl (sq (rg (xl ttOk rfl rfl (xst ttOk rfl rfl (xs rfl rfl (nl (et (ev_ret (evr_then (ret_pureN ttOk rfl rfl ?_)))))))))))))))))
     first
     | (rw [apd_no ‹_›]; simp [RpLe, L2, RcLe]; done)
     | (rw [apd_yes hb (by simp_all [fitsF, timeB] <;> omega)]; simp [RpLe, L2, RcLe, appF]; done)
     | (rw [apd_fail hb (by simp_all [fitsF, timeB] <;> (intros; omega))]; simp [RpLe, L2, RcLe]; done)
    ·refine rkt 21 rfl rfl rfl h4 (q_fieldAddr ttOk rfl) rfl (rkt 22 rfl rfl rfl h4 (q_load ttOk rfl) rfl (rkt 23 rfl rfl rfl h4 (q_len_map ttOk rfl rfl) rfl (rkt 24 rfl rfl rfl h4 (q_bin ttOk rfl) rfl (rk0 25 rfl (q_pick_f rfl h4 rfl) rfl (rdk_endq kr (et (ev_cond rfl (fun h5 => ?_) (fun h5 => ?_))))))))
     ·refine sq (rg (xl ttOk rfl rfl (xst ttOk rfl rfl (xs rfl rfl (nl (et (ev_ret (evr_then (ret_pureN ttOk rfl rfl ?_)))))))))
      first
      | (rw [apd_no ‹_›]; simp [RpLe, L2, RcLe]; done)
      | (rw [apd_yes hb (by simp_all [fitsF, timeB] <;> omega)]; simp [RpLe, L2, RcLe, appF]; done)
      | (rw [apd_fail hb (by simp_all [fitsF, timeB] <;> (intros; omega))]; simp [RpLe, L2, RcLe]; done)
     ·refine ev_skip (et (sq (rg (xf ttOk rfl rfl (xl ttOk rfl rfl (xl ttOk rfl rfl (evl_e (e_lit ttOk rfl rfl rfl) (evl_e (e_app ttOk rfl rfl rfl rfl rfl rfl rfl (by simp; omega) rfl rfl) (xf ttOk rfl rfl (xst ttOk rfl rfl (nl (et (sq (rg (xl ttOk rfl rfl (xst ttOk rfl rfl (xs rfl rfl (nl (et (ev_ret (ret_pureN ttOk rfl rfl ?_)))))))))))))))))))))
      first
      | (rw [apd_no ‹_›]; simp [RpLe, L2, RcLe]; done)
      | (rw [apd_yes hb (by simp_all [fitsF, timeB] <;> omega)]; simp [RpLe, L2, RcLe, appF]; done)
      | (rw [apd_fail hb (by simp_all [fitsF, timeB] <;> (intros; omega))]; simp [RpLe, L2, RcLe]; done)
theorem c_Marked' (l : List Mark) (e : Entry) : Pure Tryz.prog 149 [one (marks l), many (entryC e)] [one' (marksR (markedF l e).1), one' (RC.v (.bool (markedF l e).2))] := by
 refine pure_intro (N := 12) Tryz.func149 rfl rfl rfl rfl (fun H w => ?_)
 refine sq (rg (evl_e (e_box rfl rfl rfl rfl) (xs rfl rfl (xs rfl rfl (nl (et (sq (rg (xm rfl rfl (xl ttOk rfl rfl (evl_e (e_lit ttOk rfl rfl rfl) (evl_call (nm := 9) (cf rfl) (c_SeenOver' l [e]) (rs_of rfl) rfl rfl rfl (xo (q_ext rfl) rfl (xo (q_ext rfl) rfl (xs rfl rfl (xs rfl rfl (nl (et (ev_ret (ret_pure' ttOk rfl rfl ?_))))))))))))))))))))
 rw [← over_one]
theorem book_last {b : Book} (hb : bookOk b = true) : 0 ≤ lastB b ∧ lastB b ≤ 2020 := by
 have hbd := book_bd hb
 unfold lastB
 omega
section
variable {b : Book} {s : List Mark} {r : List Int}
end
section
variable {b : Book} {s : List Mark} {r : List Int} {i : Int}
end
def slotRowF (e : Entry) : List Int := if entryOk e then e.nums ++ [e.index, e.index] else []
theorem slotRow_yes {e : Entry} (h : entryOk e = true) : slotRowF e = e.nums ++ [e.index, e.index] := by simp [slotRowF, h]
theorem op_of {e : Entry} (h : entryOk e = true) : opOk e.kind e.a e.b e.c e.d = true := by
 simp only [entryOk, Bool.and_eq_true] at h
 exact h.2.2.2.2
theorem c_OpRow (e : Entry) (h : entryOk e = true) : Pure Tryz.prog 260 [many [iC e.kind, iC e.a, iC e.b, iC e.c, iC e.d]] [one' (intsR 2 [e.kind, e.a, e.b, e.c, e.d])] := by
 refine pure_intro (N := 18) Tryz.func260 rfl rfl rfl rfl (fun H w => ?_)
 have ho := op_of h
 refine sq (rg (evl_e (e_box rfl rfl rfl rfl) (xs rfl rfl (nl (et (sq (sq (rg (xl ttOk rfl rfl (evl_call (nm := 4) (cf rfl) (c_OpOk e.kind e.a e.b e.c e.d) (rs_of rfl) rfl rfl rfl (xo (q_not rfl) rfl (nl (et (ev_cond_n rfl (fun h1 => ?_) (fun h1 => ?_)))))))))))))))
 ·refine sq (rg (evl_e (e_lit ttOk rfl rfl rfl) (xs rfl rfl (nl (et (ev_ret (evr_then (ret_pure' ttOk rfl rfl ?_))))))))
  first
  | rfl
  | (exfalso; simp_all; done)
 ·refine ev_skip (et (sq (rg (xf ttOk rfl rfl (xl ttOk rfl rfl (xf ttOk rfl rfl (xl ttOk rfl rfl (xf ttOk rfl rfl (xl ttOk rfl rfl (xf ttOk rfl rfl (xl ttOk rfl rfl (xf ttOk rfl rfl (xl ttOk rfl rfl (evl_e (e_lit ttOk rfl rfl rfl) (xs rfl rfl (nl (et (ev_ret (ret_pure' ttOk rfl rfl ?_)))))))))))))))))))
  first
  | rfl
  | (exfalso; simp_all; done)
theorem c_EntryRow (e : Entry) (h : entryOk e = true) : Pure Tryz.prog 239 [many (entryC e)] [one' (intsR 2 e.nums)] := by
 refine pure_intro (N := 20) Tryz.func239 rfl rfl rfl rfl (fun H w => ?_)
 refine sq (rg (evl_e (e_box rfl rfl rfl rfl) (xs rfl rfl (nl (et (sq (sq (rg (xl ttOk rfl rfl (evl_call (nm := 4) (cf rfl) (c_EntryOk e) (rs_of rfl) rfl rfl rfl (xo (q_not rfl) rfl (nl (et (ev_cond_n rfl (fun h1 => ?_) (fun h1 => ?_)))))))))))))))
 ·refine sq (rg (evl_e (e_lit ttOk rfl rfl rfl) (xs rfl rfl (nl (et (ev_ret (evr_then (ret_pure' ttOk rfl rfl ?_))))))))
  first
  | rfl
  | (exfalso; simp_all; done)
 ·refine ev_skip (et (sq (ev_drawq [12] mo (rk0 0 rfl (q_fieldAddr ttOk rfl) rfl (rk0 1 rfl (q_load ttOk rfl) rfl (rk0 2 rfl (q_fieldAddr ttOk rfl) rfl (rk0 3 rfl (q_load ttOk rfl) rfl (rk0 4 rfl (q_fieldAddr ttOk rfl) rfl (rk0 5 rfl (q_load ttOk rfl) rfl (rk0 6 rfl (q_fieldAddr ttOk rfl) rfl (rk0 7 rfl (q_load ttOk rfl) rfl (rk0 9 rfl (q_fieldAddr ttOk rfl) rfl (rk0 10 rfl (q_load ttOk rfl) rfl (rdk_two 8 11 kr ?_ ?_))))))))))))))
  ·refine rdo_new rfl trivial (e_lit ttOk rfl rfl rfl) (rdk_one 11 kr (rdo_call (nm := 18) rfl trivial (cf rfl) (c_OpRow e h) (rs_of rfl) rfl rfl rfl (rdk_one 12 kr (rdo_brk rfl rfl trivial (e_app ttOk rfl rfl rfl rfl rfl rfl rfl (by simp) rfl rfl) (rdb_q 13 rfl kr trivial (q_assign rfl) rfl (rdb_endq kr (et (ev_ret (ret_pure' ttOk rfl rfl ?_)))))))))
   first
   | rfl
   | (exfalso; simp_all; done)
  ·refine rdo_call (nm := 18) rfl trivial (cf rfl) (c_OpRow e h) (rs_of rfl) rfl rfl rfl (rdk_one 8 kr (rdo_new rfl trivial (e_lit ttOk rfl rfl rfl) (rdk_one 12 kr (rdo_brk rfl rfl trivial (e_app ttOk rfl rfl rfl rfl rfl rfl rfl (by simp) rfl rfl) (rdb_q 13 rfl kr trivial (q_assign rfl) rfl (rdb_endq kr (et (ev_ret (ret_pure' ttOk rfl rfl ?_)))))))))
   first
   | rfl
   | (exfalso; simp_all; done)
theorem c_SlotRow (e : Entry) (h : entryOk e = true) : Pure Tryz.prog 201 [many (entryC e)] [one' (intsR 2 (slotRowF e))] := by
 refine pure_intro (N := 15) Tryz.func201 rfl rfl rfl rfl (fun H w => ?_)
 refine sq (rg (evl_e (e_box rfl rfl rfl rfl) (xs rfl rfl (nl (et (sq (sq (rg (xl ttOk rfl rfl (evl_call (nm := 4) (cf rfl) (c_EntryOk e) (rs_of rfl) rfl rfl rfl (xo (q_not rfl) rfl (nl (et (ev_cond_n rfl (fun h1 => ?_) (fun h1 => ?_)))))))))))))))
 ·refine sq (rg (evl_e (e_lit ttOk rfl rfl rfl) (xs rfl rfl (nl (et (ev_ret (evr_then (ret_pure' ttOk rfl rfl ?_))))))))
  first
  | (rw [slotRow_yes h] <;> rfl)
  | (exfalso; simp_all; done)
 ·refine ev_skip (et (sq (ev_drawq [7] mo (rk0 0 rfl (q_load ttOk rfl) rfl (rk0 2 rfl (q_fieldAddr ttOk rfl) rfl (rk0 3 rfl (q_load ttOk rfl) rfl (rk0 4 rfl (q_fieldAddr ttOk rfl) rfl (rk0 5 rfl (q_load ttOk rfl) rfl (rdk_two 1 6 kr ?_ ?_)))))))))
  ·refine rdo_call (nm := 8) rfl trivial (cf rfl) (c_EntryRow e h) (rs_of rfl) rfl rfl rfl (rdk_one 6 kr (rdo_new rfl trivial (e_lit ttOk rfl rfl rfl) (rdk_one 7 kr (rdo_brk rfl rfl trivial (e_app ttOk rfl rfl rfl rfl rfl rfl rfl (by simp [Entry.nums]) rfl rfl) (rdb_q 8 rfl kr trivial (q_assign rfl) rfl (rdb_endq kr (et (ev_ret (ret_pure' ttOk rfl rfl ?_)))))))))
   first
   | (rw [slotRow_yes h] <;> rfl)
   | (exfalso; simp_all; done)
  ·refine rdo_new rfl trivial (e_lit ttOk rfl rfl rfl) (rdk_one 1 kr (rdo_call (nm := 8) rfl trivial (cf rfl) (c_EntryRow e h) (rs_of rfl) rfl rfl rfl (rdk_one 7 kr (rdo_brk rfl rfl trivial (e_app ttOk rfl rfl rfl rfl rfl rfl rfl (by simp [Entry.nums]) rfl rfl) (rdb_q 8 rfl kr trivial (q_assign rfl) rfl (rdb_endq kr (et (ev_ret (ret_pure' ttOk rfl rfl ?_)))))))))
   first
   | (rw [slotRow_yes h] <;> rfl)
   | (exfalso; simp_all; done)
theorem c_numbersOp (e : Entry) : Pure Tryz.prog 258 [many [iC e.kind, iC e.a, iC e.b, iC e.c, iC e.d]] [one' (intsR 2 [e.kind, e.a, e.b, e.c, e.d])] := by
 refine pure_intro (N := 14) Tryz.func258 rfl rfl rfl rfl (fun H w => ?_)
 refine sq (rg (evl_e (e_box rfl rfl rfl rfl) (xs rfl rfl (nl (et (sq (rg (xf ttOk rfl rfl (xl ttOk rfl rfl (xf ttOk rfl rfl (xl ttOk rfl rfl (xf ttOk rfl rfl (xl ttOk rfl rfl (xf ttOk rfl rfl (xl ttOk rfl rfl (xf ttOk rfl rfl (xl ttOk rfl rfl (evl_e (e_lit ttOk rfl rfl rfl) (xs rfl rfl (nl (et (ev_ret (ret_pure' ttOk rfl rfl ?_)))))))))))))))))))))))
 rfl
theorem c_numbers (e : Entry) : Pure Tryz.prog 230 [many (entryC e)] [one' (intsR 2 e.nums)] := by
 refine pure_intro (N := 22) Tryz.func230 rfl rfl rfl rfl (fun H w => ?_)
 refine sq (rg (evl_e (e_box rfl rfl rfl rfl) (xs rfl rfl (nl (et (sq (rg (xf ttOk rfl rfl (xl ttOk rfl rfl (xf ttOk rfl rfl (xl ttOk rfl rfl (xf ttOk rfl rfl (xl ttOk rfl rfl (xf ttOk rfl rfl (xl ttOk rfl rfl (xf ttOk rfl rfl (xl ttOk rfl rfl (evl_e (e_lit ttOk rfl rfl rfl) (xo (q_build ttOk rfl) rfl (evl_e (e_alloc ttOk rfl rfl rfl rfl) (xst ttOk rfl rfl (nl (et (sq (ev_drawq [5] mo (rk0 0 rfl (q_fieldAddr ttOk rfl) rfl (rk0 1 rfl (q_load ttOk rfl) rfl (rk0 2 rfl (q_fieldAddr ttOk rfl) rfl (rk0 3 rfl (q_load ttOk rfl) rfl (rdk_one 4 kr (rdo_call (nm := 20) rfl trivial (cf rfl) (c_numbersOp e) (rs_of rfl) rfl rfl rfl (rdk_one 5 kr (rdo_brk rfl rfl trivial (e_app ttOk rfl rfl rfl rfl rfl rfl rfl (by simp) rfl rfl) (rdb_q 6 rfl kr trivial (q_assign rfl) rfl (rdb_endq kr (et (ev_ret (ret_pure' ttOk rfl rfl ?_))))))))))))))))))))))))))))))))))))))
 rfl
theorem c_SlotRow' (e : Entry) (h : entryOk e = true) : Pure Tryz.prog 183 [many (entryC e)] [one' (intsR 2 (slotRowF e))] := by
 refine pure_intro (N := 14) Tryz.func183 rfl rfl rfl rfl (fun H w => ?_)
 refine sq (rg (evl_e (e_box rfl rfl rfl rfl) (xs rfl rfl (nl (et (sq (sq (rg (xl ttOk rfl rfl (evl_call (nm := 4) (cf rfl) (c_EntryOk' e) (rs_of rfl) rfl rfl rfl (xo (q_not rfl) rfl (nl (et (ev_cond_n rfl (fun h1 => ?_) (fun h1 => ?_)))))))))))))))
 ·refine sq (rg (xs rfl rfl (nl (et (ev_ret (evr_then (ret_pure' ttOk rfl rfl ?_)))))))
  first
  | (rw [slotRow_yes h] <;> rfl)
  | (exfalso; simp_all; done)
 ·refine ev_skip (et (sq (ev_drawq [7] mo (rk0 0 rfl (q_load ttOk rfl) rfl (rk0 2 rfl (q_fieldAddr ttOk rfl) rfl (rk0 3 rfl (q_load ttOk rfl) rfl (rk0 4 rfl (q_fieldAddr ttOk rfl) rfl (rk0 5 rfl (q_load ttOk rfl) rfl (rdk_two 1 6 kr ?_ ?_)))))))))
  ·refine rdo_call (nm := 7) rfl trivial (cf rfl) (c_numbers e) (rs_of rfl) rfl rfl rfl (rdk_one 6 kr (rdo_new rfl trivial (e_lit ttOk rfl rfl rfl) (rdk_one 7 kr (rdo_brk rfl rfl trivial (e_app ttOk rfl rfl rfl rfl rfl rfl rfl (by simp [Entry.nums]) rfl rfl) (rdb_q 8 rfl kr trivial (q_assign rfl) rfl (rdb_endq kr (et (ev_ret (ret_pure' ttOk rfl rfl ?_)))))))))
   first
   | (rw [slotRow_yes h] <;> rfl)
   | (exfalso; simp_all; done)
  ·refine rdo_new rfl trivial (e_lit ttOk rfl rfl rfl) (rdk_one 1 kr (rdo_call (nm := 7) rfl trivial (cf rfl) (c_numbers e) (rs_of rfl) rfl rfl rfl (rdk_one 7 kr (rdo_brk rfl rfl trivial (e_app ttOk rfl rfl rfl rfl rfl rfl rfl (by simp [Entry.nums]) rfl rfl) (rdb_q 8 rfl kr trivial (q_assign rfl) rfl (rdb_endq kr (et (ev_ret (ret_pure' ttOk rfl rfl ?_)))))))))
   first
   | (rw [slotRow_yes h] <;> rfl)
   | (exfalso; simp_all; done)
theorem c_SlotOf2 (x : Int) (h : indexOk x = true) : Pure Tryz.prog 200 [one (iC x)] (iR (slotF x)) := by
 have := c_SlotOf x
 rw [h] at this
 exact this
end Go.Proofs.YtinmcdcmidlgpaaGreatDoor
