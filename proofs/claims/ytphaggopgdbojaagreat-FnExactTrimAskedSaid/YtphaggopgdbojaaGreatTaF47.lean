/- Walks of functions of the program, printed by a program of the prover. -/
import Derived.Test.YtphaggopgdbojaaGreatTaF43
namespace Go.Proofs.YtphaggopgdbojaaGreat
open Go.ChangeShapes Go.WideShapes Go.ChangeAt Go.RowKit
set_option linter.unusedVariables false
set_option linter.unusedSimpArgs false
set_option maxHeartbeats 1000000
set_option maxRecDepth 100000
attribute [local irreducible] EvL Ev EvE Quiet Eff Pure RDk RDb RDo
theorem twoOk_iff {t : Two} : twoOk t = true ↔ diskOk t.a = true ∧ diskOk t.b = true ∧ t.a.kept.length = t.b.kept.length := by simp [twoOk]
theorem keptOk_iff {t : Two} : keptOk t = true ↔ twoOk t = true ∧ t.a.kept.length = 22 := by simp [keptOk]
theorem log_all {n : LogN} (h : logOkF n = true) : keptOk n.two = true ∧ headOk n.head = true ∧ bookOk n.book = true ∧ n.book.base = n.head.base ∧ n.book.time = n.head.time := by
  simp only [logOkF, frontF, Bool.and_eq_true, decide_eq_true_eq] at h
  exact ⟨h.1.1, h.1.2.1, h.1.2.2.1, h.1.2.2.2.1, h.1.2.2.2.2⟩
theorem log_parts {n : LogN} (h : logOkF n = true) : frontF n = true ∧ midF n = true ∧ owesF n = true ∧ (if n.more then inB n.next.base (n.head.base + 1) n.durable && eqHd n.next (nextF n n.next.base) else eqHd n.next noHead) = true := by
  simp only [logOkF, Bool.and_eq_true] at h
  exact h
theorem log_seen {n : LogN} (h : logOkF n = true) : overL n.head.seen n.book.entries = some n.seen ∧ SOk n.head.seen ∧ SOk n.seen := by
  obtain ⟨_, hh, hb, _⟩ := log_all h
  have hm := (log_parts h).2.1
  simp only [midF, Bool.and_eq_true] at hm
  obtain ⟨c, hc⟩ := so_some hm.1
  have hs := sok_of (head_bd hh).2.2.2.2
  have e := so4 (of_sok hs) (by have := book_bd hb; omega) hc
  rw [e] at hm
  have := marks_eq hm.2.1
  simp only at this
  rw [← this]
  exact ⟨hc, hs, over_sok hs hc⟩
theorem eqHd_eq {a b : Head} (h : eqHd a b = true) : a = b := by
  simp only [eqHd, Bool.and_eq_true, decide_eq_true_eq] at h
  obtain ⟨h1, h2, h3, h4⟩ := h
  have := marks_eq h4
  cases a
  cases b
  simp_all
theorem log_next {n : LogN} (h : logOkF n = true) (hm : n.more = true) : headOk n.next = true ∧ n.head.base < n.next.base ∧ n.next.base ≤ n.durable ∧ n.next = nextF n n.next.base := by
  obtain ⟨h1, h2, h3, h4⟩ := log_parts h
  have h5 := next_same h1 h2 hm
  rw [if_pos hm] at h4
  rw [h4] at h5
  have h6 := h5.symm
  simp only [nextOkF, hm, if_true, Bool.and_eq_true] at h6
  simp only [Bool.and_eq_true] at h4
  have h7 := inB_iff.1 h4.1
  exact ⟨h6.1, by omega, by omega, eqHd_eq h4.2⟩
theorem log_less {n : LogN} (h : logOkF n = true) (hm : n.more = false) : n.next = noHead := by
  have h4 := (log_parts h).2.2.2
  rw [hm] at h4
  exact eqHd_eq h4
theorem acks_eq {l m : List Ack} (h : eqN Ack.nums l m = true) : l = m := by
  have h1 : l.map Ack.nums = m.map Ack.nums := of_decide_eq_true h
  have key : ∀ {l m : List Ack}, l.map Ack.nums = m.map Ack.nums → l = m := by
    intro l
    induction l with
    | nil => intro m h; cases m with
      | nil => rfl
      | cons _ _ => simp at h
    | cons a l ih =>
      intro m h
      cases m with
      | nil => simp at h
      | cons b m =>
        simp only [List.map_cons, List.cons.injEq] at h
        rw [Ack.ext' h.1, ih h.2]
  exact key h1
theorem log_owe {n : LogN} (h : logOkF n = true) : n.owe = (partF n.book (n.durable + 1) 2000).map ackF := acks_eq (log_parts h).2.2.1
theorem log_small {n : LogN} (h : logOkF n = true) : n.head.seen.length ≤ 4 ∧ n.next.seen.length ≤ 4 ∧ n.book.entries.length ≤ 20 ∧ n.seen.length ≤ 4 ∧ n.owe.length ≤ 20 := by
  obtain ⟨hk, hh, hb, _⟩ := log_all h
  have h1 := book_bd hb
  refine ⟨seen_len (head_bd hh).2.2.2.2, ?_, h1.2.2.1, seen_len (of_sok (log_seen h).2.2), ?_⟩
  · cases hm : n.more
    · rw [log_less h hm]; decide
    · exact seen_len (head_bd (log_next h hm).1).2.2.2.2
  · rw [log_owe h, List.length_map]
    have : (partF n.book (n.durable + 1) 2000).length ≤ n.book.entries.length := List.length_filter_le _ _
    omega
theorem log_two {n : LogN} (h : logOkF n = true) : twoOk n.two = true := (keptOk_iff.1 (log_all h).1).1
theorem log_sm {n : LogN} (h : logOkF n = true) : smL n := by
  obtain ⟨h1, h2, h3, h4, h5⟩ := log_small h
  exact ⟨smT_ok (log_two h), by omega, by omega, by omega, by omega, by omega⟩
theorem zeroL_sm : smL zeroL := ⟨smT_zero, by decide, by decide, by decide, by decide, by decide⟩
theorem c_l8Entries (l : List Entry) (h : l.length ≤ 1048576) : Pure Tryz.prog 175 [one (entries l)] [one' (entriesR l)] := by
 refine pure_intro (N := 6) Tryz.func175 rfl rfl rfl rfl (fun H w => ?_)
 refine sq (rg (xs rfl rfl (nl (et (sq (rg (evl_e (e_lit ttOk rfl rfl rfl) (xm rfl rfl (evl_e (e_app_c ttOk rfl rfl rfl rfl rfl (flat_entries _) (by simp; omega) rfl rfl) (xs rfl rfl (nl (et (ev_ret (ret_pure' ttOk rfl rfl ?_))))))))))))))
 rfl
theorem c_l8Copy (b : Book) (h : b.entries.length ≤ 1048576) : Pure Tryz.prog 114 [many (bookC b)] [many' (bookR b)] := by
 refine pure_intro (N := 11) Tryz.func114 rfl rfl rfl rfl (fun H w => ?_)
 refine sq (rg (evl_e (e_box rfl rfl rfl rfl) (evl_e (e_alloc ttOk rfl rfl rfl rfl) (nl (et (sq (ev_drawq [8] mo (rdk_take 0 rfl (by kernel_rfl) trivial (q_fieldAddr ttOk rfl) rfl (rdk_take 1 rfl (by kernel_rfl) trivial (q_load ttOk rfl) rfl (rdk_take 2 rfl (by kernel_rfl) trivial (q_fieldAddr ttOk rfl) rfl (rdk_take 3 rfl (by kernel_rfl) trivial (q_load ttOk rfl) rfl (rdk_take 4 rfl (by kernel_rfl) trivial (q_fieldAddr ttOk rfl) rfl (rdk_take 5 rfl (by kernel_rfl) trivial (q_load ttOk rfl) rfl (rdk_one 6 (by kernel_rfl) (rdo_call (nm := 9) rfl trivial (cf rfl) (c_l8Entries b.entries h) (rs_of rfl) rfl rfl rfl (rdk_take 7 rfl (by kernel_rfl) trivial (q_build ttOk rfl) rfl (rdk_one 8 (by kernel_rfl) (rdo_brk rfl rfl trivial (e_store ttOk rfl) (rdb_endq (by kernel_rfl) (et (ev_ret (ret_pure' ttOk rfl rfl ?_))))))))))))))))))))))
 rfl
theorem flat_acks (l : List Ack) : ∀ cs ∈ l.map ackC, ∀ c ∈ cs, ∃ x, c = .v x := by
  intro cs h c hc
  obtain ⟨x, _, rfl⟩ := List.mem_map.1 h
  simp only [List.mem_cons, List.not_mem_nil, or_false] at hc
  rcases hc with rfl | rfl | rfl | rfl <;> exact ⟨_, rfl⟩
theorem c_l12Acks (l : List Ack) (h : l.length ≤ 1048576) : Pure Tryz.prog 105 [one (acks l)] [one' (acksR l)] := by
 refine pure_intro (N := 6) Tryz.func105 rfl rfl rfl rfl (fun H w => ?_)
 refine sq (rg (xs rfl rfl (nl (et (sq (rg (evl_e (e_lit ttOk rfl rfl rfl) (xm rfl rfl (evl_e (e_app_c ttOk rfl rfl rfl rfl rfl (flat_acks _) (by simp; omega) rfl rfl) (xs rfl rfl (nl (et (ev_ret (ret_pure' ttOk rfl rfl ?_))))))))))))))
 rfl
theorem c_l10Head (h : Head) (hs : h.seen.length ≤ 1048576) : Pure Tryz.prog 103 [many (headC h)] [many' (headR h)] := by
 refine pure_intro (N := 13) Tryz.func103 rfl rfl rfl rfl (fun H w => ?_)
 refine sq (rg (evl_e (e_box rfl rfl rfl rfl) (evl_e (e_alloc ttOk rfl rfl rfl rfl) (nl (et (sq (ev_drawq [10] mo (rdk_take 0 rfl (by kernel_rfl) trivial (q_fieldAddr ttOk rfl) rfl (rdk_take 1 rfl (by kernel_rfl) trivial (q_load ttOk rfl) rfl (rdk_take 2 rfl (by kernel_rfl) trivial (q_fieldAddr ttOk rfl) rfl (rdk_take 3 rfl (by kernel_rfl) trivial (q_load ttOk rfl) rfl (rdk_take 4 rfl (by kernel_rfl) trivial (q_fieldAddr ttOk rfl) rfl (rdk_take 5 rfl (by kernel_rfl) trivial (q_load ttOk rfl) rfl (rdk_take 6 rfl (by kernel_rfl) trivial (q_fieldAddr ttOk rfl) rfl (rdk_take 7 rfl (by kernel_rfl) trivial (q_load ttOk rfl) rfl (rdk_one 8 (by kernel_rfl) (rdo_call (nm := 11) rfl trivial (cf rfl) (c_l9Copy h.seen hs) (rs_of rfl) rfl rfl rfl (rdk_take 9 rfl (by kernel_rfl) trivial (q_build ttOk rfl) rfl (rdk_one 10 (by kernel_rfl) (rdo_brk rfl rfl trivial (e_store ttOk rfl) (rdb_endq (by kernel_rfl) (et (ev_ret (ret_pure' ttOk rfl rfl ?_))))))))))))))))))))))))
 rfl
theorem c_copyHead (h : Head) (hs : h.seen.length ≤ 1048576) : Pure Tryz.prog 128 [many (headC h)] [many' (headR h)] := by
 refine pure_intro (N := 13) Tryz.func128 rfl rfl rfl rfl (fun H w => ?_)
 refine sq (rg (evl_e (e_box rfl rfl rfl rfl) (evl_e (e_alloc ttOk rfl rfl rfl rfl) (nl (et (sq (ev_drawq [10] mo (rdk_take 0 rfl (by kernel_rfl) trivial (q_fieldAddr ttOk rfl) rfl (rdk_take 1 rfl (by kernel_rfl) trivial (q_load ttOk rfl) rfl (rdk_take 2 rfl (by kernel_rfl) trivial (q_fieldAddr ttOk rfl) rfl (rdk_take 3 rfl (by kernel_rfl) trivial (q_load ttOk rfl) rfl (rdk_take 4 rfl (by kernel_rfl) trivial (q_fieldAddr ttOk rfl) rfl (rdk_take 5 rfl (by kernel_rfl) trivial (q_load ttOk rfl) rfl (rdk_take 6 rfl (by kernel_rfl) trivial (q_fieldAddr ttOk rfl) rfl (rdk_take 7 rfl (by kernel_rfl) trivial (q_load ttOk rfl) rfl (rdk_one 8 (by kernel_rfl) (rdo_call (nm := 11) rfl trivial (cf rfl) (c_copySeen h.seen hs) (rs_of rfl) rfl rfl rfl (rdk_take 9 rfl (by kernel_rfl) trivial (q_build ttOk rfl) rfl (rdk_one 10 (by kernel_rfl) (rdo_brk rfl rfl trivial (e_store ttOk rfl) (rdb_endq (by kernel_rfl) (et (ev_ret (ret_pure' ttOk rfl rfl ?_))))))))))))))))))))))))
 rfl
theorem c_l12Copy (n : LogN) (h : logOkF n = true) : Pure Tryz.prog 49 [many (logC n)] [many' (logR (n))] := by
 refine pure_intro (N := 26) Tryz.func49 rfl rfl rfl rfl (fun H w => ?_)
 have hsm := log_small h
 refine sq (rg (evl_e (e_box rfl rfl rfl rfl) (evl_e (e_alloc ttOk rfl rfl rfl rfl) (nl (et (sq (ev_drawq [23] mo (rdk_take 0 rfl (by kernel_rfl) trivial (q_fieldAddr ttOk rfl) rfl (rdk_take 1 rfl (by kernel_rfl) trivial (q_load ttOk rfl) rfl (rdk_take 3 rfl (by kernel_rfl) trivial (q_fieldAddr ttOk rfl) rfl (rdk_take 4 rfl (by kernel_rfl) trivial (q_load ttOk rfl) rfl (rdk_take 6 rfl (by kernel_rfl) trivial (q_fieldAddr ttOk rfl) rfl (rdk_take 7 rfl (by kernel_rfl) trivial (q_load ttOk rfl) rfl (rdk_take 9 rfl (by kernel_rfl) trivial (q_fieldAddr ttOk rfl) rfl (rdk_take 10 rfl (by kernel_rfl) trivial (q_load ttOk rfl) rfl (rdk_take 11 rfl (by kernel_rfl) trivial (q_fieldAddr ttOk rfl) rfl (rdk_take 12 rfl (by kernel_rfl) trivial (q_load ttOk rfl) rfl (rdk_take 14 rfl (by kernel_rfl) trivial (q_fieldAddr ttOk rfl) rfl (rdk_take 15 rfl (by kernel_rfl) trivial (q_load ttOk rfl) rfl (rdk_take 17 rfl (by kernel_rfl) trivial (q_fieldAddr ttOk rfl) rfl (rdk_take 18 rfl (by kernel_rfl) trivial (q_load ttOk rfl) rfl (rdk_take 19 rfl (by kernel_rfl) trivial (q_fieldAddr ttOk rfl) rfl (rdk_take 20 rfl (by kernel_rfl) trivial (q_load ttOk rfl) rfl (rdk_one 2 (by kernel_rfl) (rdo_call (nm := 5) rfl trivial (cf rfl) (c_l4Copy n.two (log_two h)) (rs_of rfl) rfl rfl rfl (rdk_one 5 (by kernel_rfl) ?_))))))))))))))))))))))))))
 first | refine rdo_call (nm := 8) rfl trivial (cf rfl) (c_l10Head n.head (by omega)) (rs_of rfl) rfl rfl rfl ?_ | refine rdo_call (nm := 8) rfl trivial (cf rfl) (c_l10Head n.next (by omega)) (rs_of rfl) rfl rfl rfl ?_
 refine rdk_one 8 (by kernel_rfl) ?_
 first | refine rdo_call (nm := 11) rfl trivial (cf rfl) (c_l10Head n.head (by omega)) (rs_of rfl) rfl rfl rfl ?_ | refine rdo_call (nm := 11) rfl trivial (cf rfl) (c_l10Head n.next (by omega)) (rs_of rfl) rfl rfl rfl ?_
 refine rdk_one 13 (by kernel_rfl) (rdo_call (nm := 16) rfl trivial (cf rfl) (c_l8Copy n.book (by omega)) (rs_of rfl) rfl rfl rfl (rdk_one 16 (by kernel_rfl) (rdo_call (nm := 19) rfl trivial (cf rfl) (c_l9Copy n.seen (by omega)) (rs_of rfl) rfl rfl rfl (rdk_one 21 (by kernel_rfl) (rdo_call (nm := 24) rfl trivial (cf rfl) (c_l12Acks n.owe (by omega)) (rs_of rfl) rfl rfl rfl (rdk_take 22 rfl (by kernel_rfl) trivial (q_build ttOk rfl) rfl (rdk_one 23 (by kernel_rfl) (rdo_brk rfl rfl trivial (e_store ttOk rfl) (rdb_endq (by kernel_rfl) (et (ev_ret (ret_pure' ttOk rfl rfl ?_))))))))))))
 rfl
theorem c_copyLog (n : LogN) (h : logOkF n = true) : Pure Tryz.prog 57 [many (logC n)] [many' (logR (n))] := by
 refine pure_intro (N := 27) Tryz.func57 rfl rfl rfl rfl (fun H w => ?_)
 have hsm := log_small h
 refine sq (rg (evl_e (e_box rfl rfl rfl rfl) (evl_e (e_alloc ttOk rfl rfl rfl rfl) (nl (et (sq (ev_frz (cs := logC n) 1 rfl rfl rfl (fun HF1 hHF1 => ?_))))))))
 refine' ev_drawhJ mo ?hdr1 ?kdr1
 case hdr1 =>
   refine rdh_take 0 rfl (by kernel_rfl) trivial (QuietW.h (qw_fieldAddr ttOk rfl)) rfl (rdh_take 1 rfl (by kernel_rfl) trivial (q_loadH ttOk rfl rfl) rfl (rdh_take 3 rfl (by kernel_rfl) trivial (QuietW.h (qw_fieldAddr ttOk rfl)) rfl (rdh_take 4 rfl (by kernel_rfl) trivial (q_loadH ttOk rfl rfl) rfl (rdh_take 6 rfl (by kernel_rfl) trivial (QuietW.h (qw_fieldAddr ttOk rfl)) rfl (rdh_take 7 rfl (by kernel_rfl) trivial (q_loadH ttOk rfl rfl) rfl (rdh_take 9 rfl (by kernel_rfl) trivial (QuietW.h (qw_fieldAddr ttOk rfl)) rfl (rdh_take 10 rfl (by kernel_rfl) trivial (q_loadH ttOk rfl rfl) rfl (rdh_take 11 rfl (by kernel_rfl) trivial (QuietW.h (qw_fieldAddr ttOk rfl)) rfl (rdh_take 12 rfl (by kernel_rfl) trivial (q_loadH ttOk rfl rfl) rfl (rdh_take 14 rfl (by kernel_rfl) trivial (QuietW.h (qw_fieldAddr ttOk rfl)) rfl (rdh_take 15 rfl (by kernel_rfl) trivial (q_loadH ttOk rfl rfl) rfl (rdh_take 17 rfl (by kernel_rfl) trivial (QuietW.h (qw_fieldAddr ttOk rfl)) rfl (rdh_take 18 rfl (by kernel_rfl) trivial (q_loadH ttOk rfl rfl) rfl (rdh_take 20 rfl (by kernel_rfl) trivial (QuietW.h (qw_fieldAddr ttOk rfl)) rfl (rdh_take 21 rfl (by kernel_rfl) trivial (q_loadH ttOk rfl rfl) rfl (rdh_2 2 19 (by kernel_rfl) ?_ ?_))))))))))))))))
   · refine rdho_call (nm := 5) rfl trivial (cf rfl) (c_copyTwo n.two (log_two h)) (rs_of rfl) rfl rfl rfl (rdh_2 5 19 (by kernel_rfl) ?_ ?_)
     · first | refine rdho_call (nm := 8) rfl trivial (cf rfl) (c_copyHead n.head (by omega)) (rs_of rfl) rfl rfl rfl ?_ | refine rdho_call (nm := 8) rfl trivial (cf rfl) (c_copyHead n.next (by omega)) (rs_of rfl) rfl rfl rfl ?_
       refine rdh_2 8 19 (by kernel_rfl) ?_ ?_
       · first | refine rdho_call (nm := 11) rfl trivial (cf rfl) (c_copyHead n.head (by omega)) (rs_of rfl) rfl rfl rfl ?_ | refine rdho_call (nm := 11) rfl trivial (cf rfl) (c_copyHead n.next (by omega)) (rs_of rfl) rfl rfl rfl ?_
         refine rdh_2 13 19 (by kernel_rfl) ?_ ?_
         · refine rdho_call (nm := 16) rfl trivial (cf rfl) (c_copyBook n.book (by omega)) (rs_of rfl) rfl rfl rfl (rdh_2 16 19 (by kernel_rfl) ?_ ?_)
           · refine rdho_call (nm := 19) rfl trivial (cf rfl) (c_copySeen n.seen (by omega)) (rs_of rfl) rfl rfl rfl (rdh_1 19 (by kernel_rfl) (rdho_eff rfl trivial (e_lit ttOk rfl rfl rfl) (rdh_1 22 (by kernel_rfl) (rdho_eff rfl trivial (e_app_c ttOk rfl rfl rfl rfl rfl (flat_acks _) (by simp; omega) rfl rfl) (rdh_1 23 (by kernel_rfl) (rdho_q rfl trivial (q_build ttOk rfl) rfl (rdh_1 24 (by kernel_rfl) (rdho_eff rfl trivial (e_store ttOk rfl) ?_))))))))
             exact rdh_fin (by kernel_rfl)
           · refine rdho_eff rfl trivial (e_lit ttOk rfl rfl rfl) (rdh_1 16 (by kernel_rfl) (rdho_call (nm := 19) rfl trivial (cf rfl) (c_copySeen n.seen (by omega)) (rs_of rfl) rfl rfl rfl (rdh_1 22 (by kernel_rfl) (rdho_eff rfl trivial (e_app_c ttOk rfl rfl rfl rfl rfl (flat_acks _) (by simp; omega) rfl rfl) (rdh_1 23 (by kernel_rfl) (rdho_q rfl trivial (q_build ttOk rfl) rfl (rdh_1 24 (by kernel_rfl) (rdho_eff rfl trivial (e_store ttOk rfl) ?_))))))))
             exact rdh_le [] (by kernel_rfl) ⟨by (repeat first | exact trivial | refine ⟨rfl, ?_⟩), by (repeat first | exact trivial | refine ⟨rfl, ?_⟩), by (repeat first | exact trivial | refine ⟨⟨_, rfl, rfl⟩, ?_⟩), by (repeat first | exact trivial | refine ⟨⟨_, rfl, rfl⟩, ?_⟩), rfl⟩
         · refine rdho_eff rfl trivial (e_lit ttOk rfl rfl rfl) (rdh_1 13 (by kernel_rfl) (rdho_call (nm := 16) rfl trivial (cf rfl) (c_copyBook n.book (by omega)) (rs_of rfl) rfl rfl rfl (rdh_1 16 (by kernel_rfl) (rdho_call (nm := 19) rfl trivial (cf rfl) (c_copySeen n.seen (by omega)) (rs_of rfl) rfl rfl rfl (rdh_1 22 (by kernel_rfl) (rdho_eff rfl trivial (e_app_c ttOk rfl rfl rfl rfl rfl (flat_acks _) (by simp; omega) rfl rfl) (rdh_1 23 (by kernel_rfl) (rdho_q rfl trivial (q_build ttOk rfl) rfl (rdh_1 24 (by kernel_rfl) (rdho_eff rfl trivial (e_store ttOk rfl) ?_))))))))))
           exact rdh_le [] (by kernel_rfl) ⟨by (repeat first | exact trivial | refine ⟨rfl, ?_⟩), by (repeat first | exact trivial | refine ⟨rfl, ?_⟩), by (repeat first | exact trivial | refine ⟨⟨_, rfl, rfl⟩, ?_⟩), by (repeat first | exact trivial | refine ⟨⟨_, rfl, rfl⟩, ?_⟩), rfl⟩
       · refine rdho_eff rfl trivial (e_lit ttOk rfl rfl rfl) (rdh_1 8 (by kernel_rfl) ?_)
         first | refine rdho_call (nm := 11) rfl trivial (cf rfl) (c_copyHead n.head (by omega)) (rs_of rfl) rfl rfl rfl ?_ | refine rdho_call (nm := 11) rfl trivial (cf rfl) (c_copyHead n.next (by omega)) (rs_of rfl) rfl rfl rfl ?_
         refine rdh_1 13 (by kernel_rfl) (rdho_call (nm := 16) rfl trivial (cf rfl) (c_copyBook n.book (by omega)) (rs_of rfl) rfl rfl rfl (rdh_1 16 (by kernel_rfl) (rdho_call (nm := 19) rfl trivial (cf rfl) (c_copySeen n.seen (by omega)) (rs_of rfl) rfl rfl rfl (rdh_1 22 (by kernel_rfl) (rdho_eff rfl trivial (e_app_c ttOk rfl rfl rfl rfl rfl (flat_acks _) (by simp; omega) rfl rfl) (rdh_1 23 (by kernel_rfl) (rdho_q rfl trivial (q_build ttOk rfl) rfl (rdh_1 24 (by kernel_rfl) (rdho_eff rfl trivial (e_store ttOk rfl) ?_)))))))))
         exact rdh_le [] (by kernel_rfl) ⟨by (repeat first | exact trivial | refine ⟨rfl, ?_⟩), by (repeat first | exact trivial | refine ⟨rfl, ?_⟩), by (repeat first | exact trivial | refine ⟨⟨_, rfl, rfl⟩, ?_⟩), by (repeat first | exact trivial | refine ⟨⟨_, rfl, rfl⟩, ?_⟩), rfl⟩
     · refine rdho_eff rfl trivial (e_lit ttOk rfl rfl rfl) (rdh_1 5 (by kernel_rfl) ?_)
       first | refine rdho_call (nm := 8) rfl trivial (cf rfl) (c_copyHead n.head (by omega)) (rs_of rfl) rfl rfl rfl ?_ | refine rdho_call (nm := 8) rfl trivial (cf rfl) (c_copyHead n.next (by omega)) (rs_of rfl) rfl rfl rfl ?_
       refine rdh_1 8 (by kernel_rfl) ?_
       first | refine rdho_call (nm := 11) rfl trivial (cf rfl) (c_copyHead n.head (by omega)) (rs_of rfl) rfl rfl rfl ?_ | refine rdho_call (nm := 11) rfl trivial (cf rfl) (c_copyHead n.next (by omega)) (rs_of rfl) rfl rfl rfl ?_
       refine rdh_1 13 (by kernel_rfl) (rdho_call (nm := 16) rfl trivial (cf rfl) (c_copyBook n.book (by omega)) (rs_of rfl) rfl rfl rfl (rdh_1 16 (by kernel_rfl) (rdho_call (nm := 19) rfl trivial (cf rfl) (c_copySeen n.seen (by omega)) (rs_of rfl) rfl rfl rfl (rdh_1 22 (by kernel_rfl) (rdho_eff rfl trivial (e_app_c ttOk rfl rfl rfl rfl rfl (flat_acks _) (by simp; omega) rfl rfl) (rdh_1 23 (by kernel_rfl) (rdho_q rfl trivial (q_build ttOk rfl) rfl (rdh_1 24 (by kernel_rfl) (rdho_eff rfl trivial (e_store ttOk rfl) ?_)))))))))
       exact rdh_le [] (by kernel_rfl) ⟨by (repeat first | exact trivial | refine ⟨rfl, ?_⟩), by (repeat first | exact trivial | refine ⟨rfl, ?_⟩), by (repeat first | exact trivial | refine ⟨⟨_, rfl, rfl⟩, ?_⟩), by (repeat first | exact trivial | refine ⟨⟨_, rfl, rfl⟩, ?_⟩), rfl⟩
   · refine rdho_eff rfl trivial (e_lit ttOk rfl rfl rfl) (rdh_1 2 (by kernel_rfl) (rdho_call (nm := 5) rfl trivial (cf rfl) (c_copyTwo n.two (log_two h)) (rs_of rfl) rfl rfl rfl (rdh_1 5 (by kernel_rfl) ?_)))
     first | refine rdho_call (nm := 8) rfl trivial (cf rfl) (c_copyHead n.head (by omega)) (rs_of rfl) rfl rfl rfl ?_ | refine rdho_call (nm := 8) rfl trivial (cf rfl) (c_copyHead n.next (by omega)) (rs_of rfl) rfl rfl rfl ?_
     refine rdh_1 8 (by kernel_rfl) ?_
     first | refine rdho_call (nm := 11) rfl trivial (cf rfl) (c_copyHead n.head (by omega)) (rs_of rfl) rfl rfl rfl ?_ | refine rdho_call (nm := 11) rfl trivial (cf rfl) (c_copyHead n.next (by omega)) (rs_of rfl) rfl rfl rfl ?_
     refine rdh_1 13 (by kernel_rfl) (rdho_call (nm := 16) rfl trivial (cf rfl) (c_copyBook n.book (by omega)) (rs_of rfl) rfl rfl rfl (rdh_1 16 (by kernel_rfl) (rdho_call (nm := 19) rfl trivial (cf rfl) (c_copySeen n.seen (by omega)) (rs_of rfl) rfl rfl rfl (rdh_1 22 (by kernel_rfl) (rdho_eff rfl trivial (e_app_c ttOk rfl rfl rfl rfl rfl (flat_acks _) (by simp; omega) rfl rfl) (rdh_1 23 (by kernel_rfl) (rdho_q rfl trivial (q_build ttOk rfl) rfl (rdh_1 24 (by kernel_rfl) (rdho_eff rfl trivial (e_store ttOk rfl) ?_)))))))))
     exact rdh_le [] (by kernel_rfl) ⟨by (repeat first | exact trivial | refine ⟨rfl, ?_⟩), by (repeat first | exact trivial | refine ⟨rfl, ?_⟩), by (repeat first | exact trivial | refine ⟨⟨_, rfl, rfl⟩, ?_⟩), by (repeat first | exact trivial | refine ⟨⟨_, rfl, rfl⟩, ?_⟩), rfl⟩
 refine et (ev_ret (retH rfl (ret_pure' ttOk rfl rfl ?_)))
 rfl

end Go.Proofs.YtphaggopgdbojaaGreat
namespace Go.Proofs.YtphaggopgdbojaaGreat
open Go.ChangeShapes Go.WideShapes Go.ChangeAt Go.RowKit
set_option linter.unusedVariables false
set_option linter.unusedSimpArgs false
set_option maxHeartbeats 1000000
set_option maxRecDepth 100000
attribute [local irreducible] EvL Ev EvE Quiet Eff Pure RDk RDb RDo
def keptHeadF (t : Two) (h : Head) : Two × Bool := if keptOk t then if headOk h then bothWroteF t (h.num % 2) (headRowF h) else (t, false) else (zeroT, false)
def trimAskedF (n : LogN) (x : Int) : LogN := if logOkF n then if n.more || !inB x (n.head.base + 1) n.durable then n else if (keptHeadF n.two (nextF n x)).2 then ⟨(keptHeadF n.two (nextF n x)).1, n.head, nextF n x, true, n.book, n.seen, n.durable, n.owe⟩ else n else zeroL
end Go.Proofs.YtphaggopgdbojaaGreat
namespace Go.Proofs.YtphaggopgdbojaaGreat
open Go.ChangeShapes Go.WideShapes Go.ChangeAt Go.RowKit
set_option linter.unusedVariables false
set_option linter.unusedSimpArgs false
set_option maxHeartbeats 1000000
set_option maxRecDepth 100000
attribute [local irreducible] EvL Ev EvE Quiet Eff Pure RDk RDb RDo
theorem kh_no {t : Two} {h : Head} (hk : keptOk t = false) : keptHeadF t h = (zeroT, false) := by simp [keptHeadF, hk]
theorem kh_yes {t : Two} {h : Head} (hk : keptOk t = true) (hh : headOk h = true) : keptHeadF t h = bothWroteF t (h.num % 2) (headRowF h) := by simp [keptHeadF, hk, hh]
theorem headRow_ne {h : Head} (hh : headOk h = true) : headRowF h ≠ [] := by
  unfold headRowF
  rw [hh]
  simp
def keptRowF (t : Two) (x : Int) (row : List Int) : Two × Bool := if keptOk t then bothWroteF t x row else (zeroT, false)
def withNext (n : LogN) (x : Int) : LogN := ⟨n.two, n.head, nextF n x, true, n.book, n.seen, n.durable, n.owe⟩
theorem withNext_ok {n : LogN} {x : Int} (h : logOkF n = true) (hx : inB x (n.head.base + 1) n.durable = true) : logOkF (withNext n x) = true := by
  obtain ⟨h1, h2, h3, h4⟩ := log_parts h
  unfold logOkF
  simp only [Bool.and_eq_true]
  refine ⟨h1, h2, h3, ?_⟩
  show (if true = true then (inB x (n.head.base + 1) n.durable && eqHd (nextF n x) (nextF n x)) else _) = true
  rw [if_pos rfl, hx]
  simp [eqHd, eqN]
theorem next_ok {n : LogN} {x : Int} (h : logOkF n = true) (hx : inB x (n.head.base + 1) n.durable = true) : headOk (nextF n x) = true := (log_next (withNext_ok h hx) rfl).1
theorem next_rng {n : LogN} {x : Int} (h : logOkF n = true) (hx : inB x (n.head.base + 1) n.durable = true) : n.book.base ≤ x ∧ x ≤ lastB n.book ∧ inB x (n.book.base + 1) (lastB n.book) = true := by
  obtain ⟨_, _, hb, he, _⟩ := log_all h
  have h1 := inB_iff.1 hx
  have h2 := inB_iff.1 (log_facts h).2
  exact ⟨by omega, by omega, inB_iff.2 ⟨by omega, by omega⟩⟩
theorem next_eq {n : LogN} {x : Int} (h : logOkF n = true) (hx : inB x (n.head.base + 1) n.durable = true) : nextF n x = ⟨n.head.num + 1, x, (entAtF n.book x).1.time, (seenOverF n.head.seen (n.book.entries.take (x - n.book.base).toNat)).1⟩ := by
  obtain ⟨_, _, hb, he, _⟩ := log_all h
  obtain ⟨h1, h2, h3⟩ := next_rng h hx
  have h4 := inB_iff.1 h3
  obtain ⟨m, hm1, hm2⟩ := at_get (b := n.book) (x := x) (by omega) h2
  unfold nextF
  rw [part_take hb, ent_yes hb h3 hm1 hm2]
  unfold timeAtF
  rw [if_neg (by omega), atB_eq hm1 hm2]
theorem ta_no {n : LogN} {x : Int} (h : logOkF n = false) : trimAskedF n x = zeroL := by simp [trimAskedF, h]
theorem ta_more {n : LogN} {x : Int} (h : logOkF n = true) (h2 : n.more = true) : trimAskedF n x = n := by simp [trimAskedF, h, h2]
theorem ta_out {n : LogN} {x : Int} (h : logOkF n = true) (h2 : inB x (n.head.base + 1) n.durable = false) : trimAskedF n x = n := by simp [trimAskedF, h, h2]
theorem ta_lo {n : LogN} {x : Int} (h : logOkF n = true) (h2 : x ≤ n.head.base) : trimAskedF n x = n := ta_out h (by
  cases h3 : inB x (n.head.base + 1) n.durable with
  | false => rfl
  | true => have := inB_iff.1 h3; omega)
theorem ta_hi {n : LogN} {x : Int} (h : logOkF n = true) (h2 : x > n.durable) : trimAskedF n x = n := ta_out h (by
  cases h3 : inB x (n.head.base + 1) n.durable with
  | false => rfl
  | true => have := inB_iff.1 h3; omega)
theorem ta_fail {n : LogN} {x : Int} (h : logOkF n = true) (h2 : n.more = false) (h3 : inB x (n.head.base + 1) n.durable = true) (h4 : (keptHeadF n.two (nextF n x)).2 = false) : trimAskedF n x = n := by simp [trimAskedF, h, h2, h3, h4]
theorem ta_yes {n : LogN} {x : Int} (h : logOkF n = true) (h2 : n.more = false) (h3 : inB x (n.head.base + 1) n.durable = true) (h4 : (keptHeadF n.two (nextF n x)).2 = true) : trimAskedF n x = ⟨(keptHeadF n.two (nextF n x)).1, n.head, nextF n x, true, n.book, n.seen, n.durable, n.owe⟩ := by simp [trimAskedF, h, h2, h3, h4]
theorem wrote_ok {d : Disk} {x : Int} {row : List Int} (h : diskOk d = true) : diskOk (wroteF d x row).1 = true := by
  cases h2 : wroteOk d x row
  · rw [wrote_fail h h2]; exact h
  · rw [wrote_yes h h2]
    have h1 := diskOk_sizes h
    simp only [wroteOk, Bool.and_eq_true, decide_eq_true_eq] at h2
    simp only [diskOk, Bool.and_eq_true, decide_eq_true_eq, List.all_eq_true, List.length_append, List.length_singleton]
    refine ⟨by omega, by omega, by omega, h1.2.2.2.1, fun y hy => ?_⟩
    rcases List.mem_append.1 hy with hy | hy
    · have := h1.2.2.2.2 y hy
      simpa [writeOk, hasAt] using this
    · rw [List.mem_singleton.1 hy]
      simp only [writeOk, Bool.and_eq_true]
      exact ⟨h2.1, h2.2.1⟩
theorem wrote_len {d : Disk} {x : Int} {row : List Int} (h : diskOk d = true) : (wroteF d x row).1.kept = d.kept := by
  cases h2 : wroteOk d x row
  · rw [wrote_fail h h2]
  · rw [wrote_yes h h2]
theorem both_ok {t : Two} {x : Int} {row : List Int} (h : twoOk t = true) : twoOk (bothWroteF t x row).1 = true := by
  obtain ⟨h1, h2, h3⟩ := twoOk_iff.1 h
  unfold bothWroteF
  rw [h]
  simp only [if_true]
  split
  · exact twoOk_iff.2 ⟨wrote_ok h1, wrote_ok h2, by rw [wrote_len h1, wrote_len h2, h3]⟩
  · exact h
theorem keptHead_ok {t : Two} {h : Head} (hk : keptOk t = true) : twoOk (keptHeadF t h).1 = true := by
  have ht := (keptOk_iff.1 hk).1
  unfold keptHeadF
  rw [hk]
  simp only [if_true]
  split
  · exact both_ok ht
  · exact ht
theorem trimAsked_sm (n : LogN) (x : Int) : smL (trimAskedF n x) := by
  cases h : logOkF n
  · rw [ta_no h]; exact zeroL_sm
  · have hsm := log_sm h
    cases hm : n.more
    · cases hx : inB x (n.head.base + 1) n.durable
      · rw [ta_out h hx]; exact hsm
      · cases hk : (keptHeadF n.two (nextF n x)).2
        · rw [ta_fail h hm hx hk]; exact hsm
        · rw [ta_yes h hm hx hk]
          have h1 := seen_len (head_bd (next_ok h hx)).2.2.2.2
          exact ⟨smT_ok (keptHead_ok (log_all h).1), hsm.2.1, by simp only; omega, hsm.2.2.2.1, hsm.2.2.2.2.1, hsm.2.2.2.2.2⟩
    · rw [ta_more h hm]; exact hsm
theorem c_KeptHead (t : Two) (h : Head) (hh : headOk h = true) : Pure Tryz.prog 52 [many (twoC t), many (headC h)] [many' (twoR ((keptHeadF t h).1)), one' (RC.v (.bool ((keptHeadF t h).2)))] := by
 refine pure_intro (N := 24) Tryz.func52 rfl rfl rfl rfl (fun H w => ?_)
 have hhd := head_bd hh
 refine sq (rg (evl_e (e_box rfl rfl rfl rfl) (evl_e (e_box rfl rfl rfl rfl) (evl_e (e_alloc ttOk rfl rfl rfl rfl) (xs rfl rfl (nl (et (sq (sq (rg (xl ttOk rfl rfl (evl_call (nm := 7) (cf rfl) (c_KeptOk t) (rs_of rfl) rfl rfl rfl (xo (q_not rfl) rfl (nl (et (ev_cond_n rfl (fun h1 => ?_) (fun h1 => ?_)))))))))))))))))
 · refine sq (rg (xo (q_build ttOk rfl) rfl (xst ttOk rfl rfl (xs rfl rfl (nl (et (ev_ret (evr_then (ret_pureN ttOk rfl rfl ?_)))))))))
   first
   | (rw [kh_no (by assumption)]; simp [RpLe, L2, RcLe, zeroD, zeroT]; done)
   | (rw [kh_yes (by assumption) hh]; simp [RpLe, L2, RcLe]; done)
   | (exfalso; simp_all; done)
 · refine ev_skip (et (sq (sq (rg (xl ttOk rfl rfl (evl_call (nm := 11) (cf rfl) (c_HeadOk h) (rs_of rfl) rfl rfl rfl (xo (q_not rfl) rfl (nl (et (ev_cond_n rfl (fun h2 => ?_) (fun h2 => ?_)))))))))))
   · refine sq (rg (xl ttOk rfl rfl (evl_call (nm := 14) (cf rfl) (c_l4Copy t (keptOk_iff.1 (by assumption)).1) (rs_of rfl) rfl rfl rfl (xst ttOk rfl rfl (xs rfl rfl (nl (et (ev_ret (evr_then (ret_pureN ttOk rfl rfl ?_))))))))))
     first
     | (rw [kh_no (by assumption)]; simp [RpLe, L2, RcLe, zeroD, zeroT]; done)
     | (rw [kh_yes (by assumption) hh]; simp [RpLe, L2, RcLe]; done)
     | (exfalso; simp_all; done)
   · refine ev_skip (et (sq (ev_drawq [9] mo (rdk_take 0 rfl (by kernel_rfl) trivial (q_load ttOk rfl) rfl (rdk_take 1 rfl (by kernel_rfl) trivial (q_fieldAddr ttOk rfl) rfl (rdk_take 2 rfl (by kernel_rfl) trivial (q_load ttOk rfl) rfl (rdk_take 3 rfl (by kernel_rfl) trivial (q_rem_pos rfl rfl (by omega)) rfl (rdk_take 4 rfl (by kernel_rfl) trivial (q_load ttOk rfl) rfl (rdk_one 5 (by kernel_rfl) (rdo_call (nm := 20) rfl trivial (cf rfl) (c_HeadRow h) (rs_of rfl) rfl rfl rfl (rdk_one 6 (by kernel_rfl) (rdo_call (nm := 21) rfl trivial (cf rfl) (c_BothWrote t (h.num % 2) (headRowF h)) (rs_of rfl) rfl rfl rfl (rdk_take 7 rfl (by kernel_rfl) trivial (q_ext rfl) rfl (rdk_take 8 rfl (by kernel_rfl) trivial (q_ext rfl) rfl (rdk_one 9 (by kernel_rfl) (rdo_brk rfl rfl trivial (e_store ttOk rfl) (rdb_q 10 rfl (by kernel_rfl) trivial (q_assign rfl) rfl (rdb_endq (by kernel_rfl) (et (ev_ret (ret_pureN ttOk rfl rfl ?_)))))))))))))))))))))
     first
     | (rw [kh_no (by assumption)]; simp [RpLe, L2, RcLe, zeroD, zeroT]; done)
     | (rw [kh_yes (by assumption) hh]; simp [RpLe, L2, RcLe]; done)
     | (exfalso; simp_all; done)
theorem c_keptRow (t : Two) (x : Int) (row : List Int) (hr : row ≠ []) : Pure Tryz.prog 131 [many (twoC t), one (iC x), one (ints row)] [many' (twoR ((keptRowF t x row).1)), one' (RC.v (.bool ((keptRowF t x row).2)))] := by
 refine pure_intro (N := 22) Tryz.func131 rfl rfl rfl rfl (fun H w => ?_)
 refine sq (rg (evl_e (e_box rfl rfl rfl rfl) (evl_e (e_alloc ttOk rfl rfl rfl rfl) (xs rfl rfl (nl (et (sq (sq (rg (xl ttOk rfl rfl (evl_call (nm := 9) (cf rfl) (c_KeptOk' t) (rs_of rfl) rfl rfl rfl (xo (q_not rfl) rfl (nl (et (ev_cond_n rfl (fun h1 => ?_) (fun h1 => ?_))))))))))))))))
 · refine sq (rg (xo (q_build ttOk rfl) rfl (xst ttOk rfl rfl (xs rfl rfl (nl (et (ev_ret (evr_then (ret_pureN ttOk rfl rfl ?_)))))))))
   first
   | (rw [show keptRowF t x row = (zeroT, false) by simp only [keptRowF]; rw [h1]; rfl]; simp [RpLe, L2, RcLe, zeroD, zeroT]; done)
   | (rw [show keptRowF t x row = bothWroteF t x row by simp only [keptRowF]; rw [h1]; rfl]; simp [RpLe, L2, RcLe]; done)
 · refine ev_skip (et (sq (sq (rg (xm rfl rfl (xo (q_nilv ttOk rfl rfl rfl (by simpa using hr) rfl rfl) rfl (nl (et (ev_cond_kf rfl (by first | rfl | assumption | exact nt (by assumption) | exact nf (by assumption)) (ev_skip (et (sq (rg (xl ttOk rfl rfl (xm rfl rfl (xm rfl rfl (evl_call (nm := 19) (cf rfl) (c_BothWrote' t x row) (rs_of rfl) rfl rfl rfl (xo (q_ext rfl) rfl (xo (q_ext rfl) rfl (xst ttOk rfl rfl (xs rfl rfl (nl (et (ev_ret (ret_pureN ttOk rfl rfl ?_)))))))))))))))))))))))))
   first
   | (rw [show keptRowF t x row = (zeroT, false) by simp only [keptRowF]; rw [h1]; rfl]; simp [RpLe, L2, RcLe, zeroD, zeroT]; done)
   | (rw [show keptRowF t x row = bothWroteF t x row by simp only [keptRowF]; rw [h1]; rfl]; simp [RpLe, L2, RcLe]; done)
theorem c_KeptHead' (t : Two) (h : Head) (hh : headOk h = true) : Pure Tryz.prog 60 [many (twoC t), many (headC h)] [many' (twoR ((keptHeadF t h).1)), one' (RC.v (.bool ((keptHeadF t h).2)))] := by
 refine pure_intro (N := 15) Tryz.func60 rfl rfl rfl rfl (fun H w => ?_)
 have hhd := head_bd hh
 refine sq (rg (evl_e (e_box rfl rfl rfl rfl) (evl_e (e_box rfl rfl rfl rfl) (evl_e (e_alloc ttOk rfl rfl rfl rfl) (xs rfl rfl (nl (et (sq (ev_drawq [9] mo (rdk_take 0 rfl (by kernel_rfl) trivial (q_load ttOk rfl) rfl (rdk_take 1 rfl (by kernel_rfl) trivial (q_fieldAddr ttOk rfl) rfl (rdk_take 2 rfl (by kernel_rfl) trivial (q_load ttOk rfl) rfl (rdk_take 3 rfl (by kernel_rfl) trivial (q_rem_pos rfl rfl (by omega)) rfl (rdk_take 4 rfl (by kernel_rfl) trivial (q_load ttOk rfl) rfl (rdk_one 5 (by kernel_rfl) (rdo_call (nm := 11) rfl trivial (cf rfl) (c_HeadRow' h) (rs_of rfl) rfl rfl rfl (rdk_one 6 (by kernel_rfl) (rdo_call (nm := 12) rfl trivial (cf rfl) (c_keptRow t (h.num % 2) (headRowF h) (headRow_ne hh)) (rs_of rfl) rfl rfl rfl (rdk_take 7 rfl (by kernel_rfl) trivial (q_ext rfl) rfl (rdk_take 8 rfl (by kernel_rfl) trivial (q_ext rfl) rfl (rdk_one 9 (by kernel_rfl) (rdo_brk rfl rfl trivial (e_store ttOk rfl) (rdb_q 10 rfl (by kernel_rfl) trivial (q_assign rfl) rfl (rdb_endq (by kernel_rfl) (et (ev_ret (ret_pureN ttOk rfl rfl ?_)))))))))))))))))))))))))))
 rw [show keptHeadF t h = keptRowF t (h.num % 2) (headRowF h) by simp only [keptHeadF, keptRowF]; rw [hh]; rfl]; simp [RpLe, L2, RcLe]
theorem c_TrimAsked (n : LogN) (x : Int) : Pure Tryz.prog 10 [many (logC n), one (iC x)] [many' (logR (trimAskedF n x))] := by
 refine pure_intro (N := 48) Tryz.func10 rfl rfl rfl rfl (fun H w => ?_)
 refine sq (rg (evl_e (e_box rfl rfl rfl rfl) (evl_e (e_alloc ttOk rfl rfl rfl rfl) (nl (et (sq (sq (rg (xl ttOk rfl rfl (evl_call (nm := 10) (cf rfl) (c_LogOk n) (rs_of rfl) rfl rfl rfl (xo (q_not rfl) rfl (nl (et (ev_cond_n rfl (fun h1 => ?_) (fun h1 => ?_)))))))))))))))
 · refine sq (rg (xo (q_build ttOk rfl) rfl (xst ttOk rfl rfl (nl (et (ev_ret (evr_then (ret_pureN ttOk rfl rfl ?_))))))))
   first
   | (rw [ta_no (by assumption)]; simp [RpLe, L2, RcLe, zeroL, zeroD, zeroT, noHead]; done)
   | (rw [ta_more (by assumption) (by assumption)]; simp [RpLe, L2, RcLe]; done)
   | (rw [ta_out (by assumption) (by assumption)]; simp [RpLe, L2, RcLe]; done)
   | (rw [ta_lo (by assumption) (by assumption)]; simp [RpLe, L2, RcLe]; done)
   | (rw [ta_hi (by assumption) (by assumption)]; simp [RpLe, L2, RcLe]; done)
   | (rw [ta_fail (by assumption) (by assumption) hx (by assumption)]; simp [RpLe, L2, RcLe]; done)
   | (rw [ta_yes (by assumption) (by assumption) hx (by assumption)]; simp [RpLe, L2, RcLe]; done)
   | (rw [ta_yes (by assumption) (by assumption) hx (by assumption)]; simp [RpLe, L2, RcLe, hne]; done)
 · obtain ⟨hk, hh, hb, he1, he2⟩ := log_all h1
   have hsm := log_small h1
   have hbd := book_bd hb
   have hhd := head_bd hh
   refine ev_skip (et (sq (rg (xl ttOk rfl rfl (evl_call (nm := 14) (cf rfl) (c_l12Copy n (by assumption)) (rs_of rfl) rfl rfl rfl (evl_e (e_alloc ttOk rfl rfl rfl rfl) (xst ttOk rfl rfl (nl (et (sq (sq (rg (xf ttOk rfl rfl (xl ttOk rfl rfl (xm rfl rfl (evl_part rfl rfl (fun h2 => ?_) (fun h2 => ?_)))))))))))))))))
   · refine gn h2 rfl rfl rfl (gn h2 rfl rfl rfl (gn h2 rfl rfl rfl (gn h2 rfl rfl rfl (gn h2 rfl rfl rfl (gn h2 rfl rfl rfl (gn h2 rfl rfl rfl (gn h2 rfl rfl rfl (gn h2 rfl rfl rfl (xo (q_pick_t rfl h2 rfl) rfl (nl (et (ev_cond_kt rfl rfl (sq (rg (xl ttOk rfl rfl (xst ttOk rfl rfl (nl (et (ev_ret (evr_then (ret_pureN ttOk rfl rfl ?_)))))))))))))))))))))
     first
     | (rw [ta_no (by assumption)]; simp [RpLe, L2, RcLe, zeroL, zeroD, zeroT, noHead]; done)
     | (rw [ta_more (by assumption) (by assumption)]; simp [RpLe, L2, RcLe]; done)
     | (rw [ta_out (by assumption) (by assumption)]; simp [RpLe, L2, RcLe]; done)
     | (rw [ta_lo (by assumption) (by assumption)]; simp [RpLe, L2, RcLe]; done)
     | (rw [ta_hi (by assumption) (by assumption)]; simp [RpLe, L2, RcLe]; done)
     | (rw [ta_fail (by assumption) (by assumption) hx (by assumption)]; simp [RpLe, L2, RcLe]; done)
     | (rw [ta_yes (by assumption) (by assumption) hx (by assumption)]; simp [RpLe, L2, RcLe]; done)
     | (rw [ta_yes (by assumption) (by assumption) hx (by assumption)]; simp [RpLe, L2, RcLe, hne]; done)
   · refine gm h2 rfl rfl rfl rfl (go h2 rfl rfl (q_fieldAddr ttOk rfl) rfl (go h2 rfl rfl (q_fieldAddr ttOk rfl) rfl (go h2 rfl rfl (q_load ttOk rfl) rfl (go h2 rfl rfl (q_ar rfl rfl rfl (by omega)) rfl (go h2 rfl rfl (q_fieldAddr ttOk rfl) rfl (go h2 rfl rfl (q_load ttOk rfl) rfl (evl_callg rfl rfl h2 (nm := 25) (cf rfl) (c_l1In _ _ _) (rs_of rfl) rfl rfl rfl (go h2 rfl rfl (q_not rfl) rfl (xo (q_pick_f rfl h2 rfl) rfl (nl (et (ev_cond_n rfl (fun h3 => ?_) (fun h3 => ?_)))))))))))))
     · refine sq (rg (xl ttOk rfl rfl (xst ttOk rfl rfl (nl (et (ev_ret (evr_then (ret_pureN ttOk rfl rfl ?_))))))))
       first
       | (rw [ta_no (by assumption)]; simp [RpLe, L2, RcLe, zeroL, zeroD, zeroT, noHead]; done)
       | (rw [ta_more (by assumption) (by assumption)]; simp [RpLe, L2, RcLe]; done)
       | (rw [ta_out (by assumption) (by assumption)]; simp [RpLe, L2, RcLe]; done)
       | (rw [ta_lo (by assumption) (by assumption)]; simp [RpLe, L2, RcLe]; done)
       | (rw [ta_hi (by assumption) (by assumption)]; simp [RpLe, L2, RcLe]; done)
       | (rw [ta_fail (by assumption) (by assumption) hx (by assumption)]; simp [RpLe, L2, RcLe]; done)
       | (rw [ta_yes (by assumption) (by assumption) hx (by assumption)]; simp [RpLe, L2, RcLe]; done)
       | (rw [ta_yes (by assumption) (by assumption) hx (by assumption)]; simp [RpLe, L2, RcLe, hne]; done)
     · refine ev_skip (et (sq ?_))
       have hx : inB x (n.head.base + 1) n.durable = true := by assumption
       have hnr := next_rng h1 hx
       have hnok := next_ok h1 hx
       refine rg (xl ttOk rfl rfl (xm rfl rfl (evl_call (nm := 31) (cf rfl) (c_l12Next n x hb ⟨hnr.1, hnr.2.1⟩ (by omega)) (rs_of rfl) rfl rfl rfl (evl_e (e_alloc ttOk rfl rfl rfl rfl) (xst ttOk rfl rfl (nl (et (sq (rg (xf ttOk rfl rfl (xl ttOk rfl rfl (xl ttOk rfl rfl (evl_call (nm := 36) (cf rfl) (c_KeptHead n.two (nextF n x) hnok) (rs_of rfl) rfl rfl rfl (xm rfl rfl (xo (q_ext rfl) rfl (xo (q_ext rfl) rfl (evl_e (e_alloc ttOk rfl rfl rfl rfl) (xst ttOk rfl rfl (xs rfl rfl (nl (et (sq (sq (rg (xm rfl rfl (xo (q_not rfl) rfl (nl (et (ev_cond_n rfl (fun h4 => ?_) (fun h4 => ?_))))))))))))))))))))))))))))))
       · refine sq (rg (xl ttOk rfl rfl (xst ttOk rfl rfl (nl (et (ev_ret (evr_then (ret_pureN ttOk rfl rfl ?_))))))))
         first
         | (rw [ta_no (by assumption)]; simp [RpLe, L2, RcLe, zeroL, zeroD, zeroT, noHead]; done)
         | (rw [ta_more (by assumption) (by assumption)]; simp [RpLe, L2, RcLe]; done)
         | (rw [ta_out (by assumption) (by assumption)]; simp [RpLe, L2, RcLe]; done)
         | (rw [ta_lo (by assumption) (by assumption)]; simp [RpLe, L2, RcLe]; done)
         | (rw [ta_hi (by assumption) (by assumption)]; simp [RpLe, L2, RcLe]; done)
         | (rw [ta_fail (by assumption) (by assumption) hx (by assumption)]; simp [RpLe, L2, RcLe]; done)
         | (rw [ta_yes (by assumption) (by assumption) hx (by assumption)]; simp [RpLe, L2, RcLe]; done)
         | (rw [ta_yes (by assumption) (by assumption) hx (by assumption)]; simp [RpLe, L2, RcLe, hne]; done)
       · refine ev_skip (et (sq (rg (xl ttOk rfl rfl (xf ttOk rfl rfl (xst ttOk rfl rfl (nl (et (sq (rg (xl ttOk rfl rfl (xf ttOk rfl rfl (xst ttOk rfl rfl (nl (et (sq (rg (xf ttOk rfl rfl (xst ttOk rfl rfl (nl (et (sq (rg (xl ttOk rfl rfl (xst ttOk rfl rfl (nl (et (ev_ret (ret_pureN ttOk rfl rfl ?_)))))))))))))))))))))))))))))
         first
         | (rw [ta_no (by assumption)]; simp [RpLe, L2, RcLe, zeroL, zeroD, zeroT, noHead]; done)
         | (rw [ta_more (by assumption) (by assumption)]; simp [RpLe, L2, RcLe]; done)
         | (rw [ta_out (by assumption) (by assumption)]; simp [RpLe, L2, RcLe]; done)
         | (rw [ta_lo (by assumption) (by assumption)]; simp [RpLe, L2, RcLe]; done)
         | (rw [ta_hi (by assumption) (by assumption)]; simp [RpLe, L2, RcLe]; done)
         | (rw [ta_fail (by assumption) (by assumption) hx (by assumption)]; simp [RpLe, L2, RcLe]; done)
         | (rw [ta_yes (by assumption) (by assumption) hx (by assumption)]; simp [RpLe, L2, RcLe]; done)
         | (rw [ta_yes (by assumption) (by assumption) hx (by assumption)]; simp [RpLe, L2, RcLe, hne]; done)
theorem c_TrimAsked' (n : LogN) (x : Int) : Pure Tryz.prog 12 [many (logC n), one (iC x)] [many' (logR (trimAskedF n x))] := by
 refine pure_intro (N := 76) Tryz.func12 rfl rfl rfl rfl (fun H w => ?_)
 refine sq (rg (evl_e (e_box rfl rfl rfl rfl) (evl_e (e_alloc ttOk rfl rfl rfl rfl) (nl (et (sq (sq (rg (xl ttOk rfl rfl (evl_call (nm := 14) (cf rfl) (c_LogOk2 n) (rs_of rfl) rfl rfl rfl (xo (q_not rfl) rfl (nl (et (ev_cond_n rfl (fun h1 => ?_) (fun h1 => ?_)))))))))))))))
 · try have d1 := of_decide_eq_false h1
   refine sq (rg (xo (q_build ttOk rfl) rfl (xst ttOk rfl rfl (nl (et (ev_ret (evr_then (ret_pureN ttOk rfl rfl ?_))))))))
   first
   | (rw [ta_no (by assumption)]; simp [RpLe, L2, RcLe, zeroL, zeroD, zeroT, noHead]; done)
   | (rw [ta_more (by assumption) (by assumption)]; simp [RpLe, L2, RcLe]; done)
   | (rw [ta_out (by assumption) (by assumption)]; simp [RpLe, L2, RcLe]; done)
   | (rw [ta_lo (by assumption) (by assumption)]; simp [RpLe, L2, RcLe]; done)
   | (rw [ta_hi (by assumption) (by assumption)]; simp [RpLe, L2, RcLe]; done)
   | (rw [ta_fail (by assumption) (by assumption) hx (by assumption)]; simp [RpLe, L2, RcLe]; done)
   | (rw [ta_yes (by assumption) (by assumption) hx (by assumption)]; simp [RpLe, L2, RcLe]; done)
   | (rw [ta_yes (by assumption) (by assumption) hx (by assumption)]; simp [RpLe, L2, RcLe, hne]; done)
 · try have d1 := of_decide_eq_true h1
   obtain ⟨hk, hh, hb, he1, he2⟩ := log_all h1
   have hsm := log_small h1
   have hbd := book_bd hb
   have hhd := head_bd hh
   refine ev_skip (et (sq (rg (xl ttOk rfl rfl (evl_call (nm := 18) (cf rfl) (c_copyLog n (by assumption)) (rs_of rfl) rfl rfl rfl (evl_e (e_alloc ttOk rfl rfl rfl rfl) (xst ttOk rfl rfl (nl (et (sq (sq (rg (xf ttOk rfl rfl (xl ttOk rfl rfl (xm rfl rfl (evl_part rfl rfl (fun h2 => ?_) (fun h2 => ?_)))))))))))))))))
   · try have d2 := of_decide_eq_true h2
     refine gn h2 rfl rfl rfl (gn h2 rfl rfl rfl (gn h2 rfl rfl rfl (gn h2 rfl rfl rfl (gn h2 rfl rfl rfl (xo (q_pick_t rfl h2 rfl) rfl (xm rfl rfl (gn rfl rfl rfl rfl (gn rfl rfl rfl rfl (gn rfl rfl rfl rfl (gn rfl rfl rfl rfl (xo (q_pick_t rfl rfl rfl) rfl (nl (et (ev_cond_kt rfl rfl (sq (rg (xl ttOk rfl rfl (xst ttOk rfl rfl (nl (et (ev_ret (evr_then (ret_pureN ttOk rfl rfl ?_)))))))))))))))))))))))
     first
     | (rw [ta_no (by assumption)]; simp [RpLe, L2, RcLe, zeroL, zeroD, zeroT, noHead]; done)
     | (rw [ta_more (by assumption) (by assumption)]; simp [RpLe, L2, RcLe]; done)
     | (rw [ta_out (by assumption) (by assumption)]; simp [RpLe, L2, RcLe]; done)
     | (rw [ta_lo (by assumption) (by assumption)]; simp [RpLe, L2, RcLe]; done)
     | (rw [ta_hi (by assumption) (by assumption)]; simp [RpLe, L2, RcLe]; done)
     | (rw [ta_fail (by assumption) (by assumption) hx (by assumption)]; simp [RpLe, L2, RcLe]; done)
     | (rw [ta_yes (by assumption) (by assumption) hx (by assumption)]; simp [RpLe, L2, RcLe]; done)
     | (rw [ta_yes (by assumption) (by assumption) hx (by assumption)]; simp [RpLe, L2, RcLe, hne]; done)
   · try have d2 := of_decide_eq_false h2
     refine gm h2 rfl rfl rfl rfl (go h2 rfl rfl (q_fieldAddr ttOk rfl) rfl (go h2 rfl rfl (q_fieldAddr ttOk rfl) rfl (go h2 rfl rfl (q_load ttOk rfl) rfl (go h2 rfl rfl (q_bin ttOk rfl) rfl (xo (q_pick_f rfl h2 rfl) rfl (xm rfl rfl (evl_part rfl rfl (fun h3 => ?_) (fun h3 => ?_))))))))
     · try have d3 := of_decide_eq_true h3
       refine gn h3 rfl rfl rfl (gn h3 rfl rfl rfl (gn h3 rfl rfl rfl (gn h3 rfl rfl rfl (xo (q_pick_t rfl h3 rfl) rfl (nl (et (ev_cond_kt rfl rfl (sq (rg (xl ttOk rfl rfl (xst ttOk rfl rfl (nl (et (ev_ret (evr_then (ret_pureN ttOk rfl rfl ?_))))))))))))))))
       first
       | (rw [ta_no (by assumption)]; simp [RpLe, L2, RcLe, zeroL, zeroD, zeroT, noHead]; done)
       | (rw [ta_more (by assumption) (by assumption)]; simp [RpLe, L2, RcLe]; done)
       | (rw [ta_out (by assumption) (by assumption)]; simp [RpLe, L2, RcLe]; done)
       | (rw [ta_lo (by assumption) (by assumption)]; simp [RpLe, L2, RcLe]; done)
       | (rw [ta_hi (by assumption) (by assumption)]; simp [RpLe, L2, RcLe]; done)
       | (rw [ta_fail (by assumption) (by assumption) hx (by assumption)]; simp [RpLe, L2, RcLe]; done)
       | (rw [ta_yes (by assumption) (by assumption) hx (by assumption)]; simp [RpLe, L2, RcLe]; done)
       | (rw [ta_yes (by assumption) (by assumption) hx (by assumption)]; simp [RpLe, L2, RcLe, hne]; done)
     · try have d3 := of_decide_eq_false h3
       refine gm h3 rfl rfl rfl rfl (go h3 rfl rfl (q_fieldAddr ttOk rfl) rfl (go h3 rfl rfl (q_load ttOk rfl) rfl (go h3 rfl rfl (q_bin ttOk rfl) rfl (xo (q_pick_f rfl h3 rfl) rfl (nl (et (ev_cond rfl (fun h4 => ?_) (fun h4 => ?_))))))))
       · try have d4 := of_decide_eq_true h4
         refine sq (rg (xl ttOk rfl rfl (xst ttOk rfl rfl (nl (et (ev_ret (evr_then (ret_pureN ttOk rfl rfl ?_))))))))
         first
         | (rw [ta_no (by assumption)]; simp [RpLe, L2, RcLe, zeroL, zeroD, zeroT, noHead]; done)
         | (rw [ta_more (by assumption) (by assumption)]; simp [RpLe, L2, RcLe]; done)
         | (rw [ta_out (by assumption) (by assumption)]; simp [RpLe, L2, RcLe]; done)
         | (rw [ta_lo (by assumption) (by assumption)]; simp [RpLe, L2, RcLe]; done)
         | (rw [ta_hi (by assumption) (by assumption)]; simp [RpLe, L2, RcLe]; done)
         | (rw [ta_fail (by assumption) (by assumption) hx (by assumption)]; simp [RpLe, L2, RcLe]; done)
         | (rw [ta_yes (by assumption) (by assumption) hx (by assumption)]; simp [RpLe, L2, RcLe]; done)
         | (rw [ta_yes (by assumption) (by assumption) hx (by assumption)]; simp [RpLe, L2, RcLe, hne]; done)
       · try have d4 := of_decide_eq_false h4
         refine ev_skip (et (sq ?_))
         have hx : inB x (n.head.base + 1) n.durable = true := inB_iff.2 ⟨by omega, by omega⟩
         have hnr := next_rng h1 hx
         have hnok := next_ok h1 hx
         have hne := next_eq h1 hx
         have hck := c_KeptHead' n.two (nextF n x) hnok
         simp only [show headC (nextF n x) = headC (⟨n.head.num + 1, x, (entAtF n.book x).1.time, (seenOverF n.head.seen (n.book.entries.take (x - n.book.base).toNat)).1⟩ : Head) from congrArg headC hne] at hck
         refine rg (xf ttOk rfl rfl (xl ttOk rfl rfl (xm rfl rfl (evl_call (nm := 39) (cf rfl) (c_EntryAt n.book x) (rs_of rfl) rfl rfl rfl (xm rfl rfl (xo (q_ext rfl) rfl (xo (q_ext rfl) rfl (evl_e (e_alloc ttOk rfl rfl rfl rfl) (xst ttOk rfl rfl (xs rfl rfl (nl (et (sq (rg (xf ttOk rfl rfl (xl ttOk rfl rfl (xf ttOk rfl rfl (xl ttOk rfl rfl (xm rfl rfl (evl_call (nm := 48) (cf rfl) (c_seenUpTo n.head n.book x hb ⟨hnr.1, hnr.2.1⟩) (rs_of rfl) rfl rfl rfl (xm rfl rfl (xo (q_ext rfl) rfl (xo (q_ext rfl) rfl (xs rfl rfl (xs rfl rfl (nl (et (sq (rg (xf ttOk rfl rfl (xf ttOk rfl rfl (xl ttOk rfl rfl (xa rfl rfl rfl (by omega) rfl (xm rfl rfl (xf ttOk rfl rfl (xl ttOk rfl rfl (xm rfl rfl (xo (q_build ttOk rfl) rfl (evl_e (e_alloc ttOk rfl rfl rfl rfl) (xst ttOk rfl rfl (nl (et (sq (rg (xf ttOk rfl rfl (xl ttOk rfl rfl (xl ttOk rfl rfl (evl_call (nm := 64) (cf rfl) hck (rs_of rfl) rfl rfl rfl (xm rfl rfl (xo (q_ext rfl) rfl ?_))))))))))))))))))))))))))))))))))))))))))))))))))
         refine xo (q_ext rfl) rfl (evl_e (e_alloc ttOk rfl rfl rfl rfl) (xst ttOk rfl rfl (xs rfl rfl (nl (et (sq (sq (rg (xm rfl rfl (xo (q_not rfl) rfl (nl (et (ev_cond_n rfl (fun h5 => ?_) (fun h5 => ?_))))))))))))))
         · try have d5 := of_decide_eq_false h5
           refine sq (rg (xl ttOk rfl rfl (xst ttOk rfl rfl (nl (et (ev_ret (evr_then (ret_pureN ttOk rfl rfl ?_))))))))
           first
           | (rw [ta_no (by assumption)]; simp [RpLe, L2, RcLe, zeroL, zeroD, zeroT, noHead]; done)
           | (rw [ta_more (by assumption) (by assumption)]; simp [RpLe, L2, RcLe]; done)
           | (rw [ta_out (by assumption) (by assumption)]; simp [RpLe, L2, RcLe]; done)
           | (rw [ta_lo (by assumption) (by assumption)]; simp [RpLe, L2, RcLe]; done)
           | (rw [ta_hi (by assumption) (by assumption)]; simp [RpLe, L2, RcLe]; done)
           | (rw [ta_fail (by assumption) (by assumption) hx (by assumption)]; simp [RpLe, L2, RcLe]; done)
           | (rw [ta_yes (by assumption) (by assumption) hx (by assumption)]; simp [RpLe, L2, RcLe]; done)
           | (rw [ta_yes (by assumption) (by assumption) hx (by assumption)]; simp [RpLe, L2, RcLe, hne]; done)
         · try have d5 := of_decide_eq_true h5
           refine ev_skip (et (sq ?_))
           refine' ev_drawhJ mo ?hdr1 ?kdr1
           case hdr1 =>
             refine rdh_2 0 1 (by kernel_rfl) ?_ ?_
             · refine rdho_q rfl trivial (q_load ttOk rfl) rfl (rdh_take 2 rfl (by kernel_rfl) trivial (QuietW.h (qw_fieldAddr ttOk rfl)) rfl (rdh_2 1 3 (by kernel_rfl) ?_ ?_))
               · refine rdho_q rfl trivial (q_load ttOk rfl) rfl (rdh_1 3 (by kernel_rfl) (rdho_eff rfl trivial (e_store ttOk rfl) (rdh_take 4 rfl (by kernel_rfl) trivial (QuietW.h (qw_fieldAddr ttOk rfl)) rfl (rdh_1 5 (by kernel_rfl) (rdho_eff rfl trivial (e_store ttOk rfl) (rdh_take 6 rfl (by kernel_rfl) trivial (QuietW.h (qw_fieldAddr ttOk rfl)) rfl (rdh_1 7 (by kernel_rfl) (rdho_eff rfl trivial (e_store ttOk rfl) ?_))))))))
                 exact rdh_fin (by kernel_rfl)
               · refine rdho_eff rfl trivial (e_store ttOk rfl) (rdh_1 1 (by kernel_rfl) (rdho_q rfl trivial (q_load ttOk rfl) rfl (rdh_take 4 rfl (by kernel_rfl) trivial (QuietW.h (qw_fieldAddr ttOk rfl)) rfl (rdh_1 5 (by kernel_rfl) (rdho_eff rfl trivial (e_store ttOk rfl) (rdh_take 6 rfl (by kernel_rfl) trivial (QuietW.h (qw_fieldAddr ttOk rfl)) rfl (rdh_1 7 (by kernel_rfl) (rdho_eff rfl trivial (e_store ttOk rfl) ?_))))))))
                 exact rdh_le [] (by kernel_rfl) ⟨by (repeat first | exact trivial | refine ⟨rfl, ?_⟩), by (repeat first | exact trivial | refine ⟨rfl, ?_⟩), by (repeat first | exact trivial | refine ⟨⟨_, rfl, rfl⟩, ?_⟩), by (repeat first | exact trivial | refine ⟨⟨_, rfl, rfl⟩, ?_⟩), rfl⟩
             · refine rdho_q rfl trivial (q_load ttOk rfl) rfl (rdh_1 0 (by kernel_rfl) (rdho_q rfl trivial (q_load ttOk rfl) rfl (rdh_take 2 rfl (by kernel_rfl) trivial (QuietW.h (qw_fieldAddr ttOk rfl)) rfl (rdh_1 3 (by kernel_rfl) (rdho_eff rfl trivial (e_store ttOk rfl) (rdh_take 4 rfl (by kernel_rfl) trivial (QuietW.h (qw_fieldAddr ttOk rfl)) rfl (rdh_1 5 (by kernel_rfl) (rdho_eff rfl trivial (e_store ttOk rfl) (rdh_take 6 rfl (by kernel_rfl) trivial (QuietW.h (qw_fieldAddr ttOk rfl)) rfl (rdh_1 7 (by kernel_rfl) (rdho_eff rfl trivial (e_store ttOk rfl) ?_)))))))))))
               exact rdh_le [] (by kernel_rfl) ⟨by (repeat first | exact trivial | refine ⟨rfl, ?_⟩), by (repeat first | exact trivial | refine ⟨rfl, ?_⟩), by (repeat first | exact trivial | refine ⟨⟨_, rfl, rfl⟩, ?_⟩), by (repeat first | exact trivial | refine ⟨⟨_, rfl, rfl⟩, ?_⟩), rfl⟩
           refine et (sq (rg (xl ttOk rfl rfl (xst ttOk rfl rfl (nl (et (ev_ret (ret_pureN ttOk rfl rfl ?_))))))))
           first
           | (rw [ta_no (by assumption)]; simp [RpLe, L2, RcLe, zeroL, zeroD, zeroT, noHead]; done)
           | (rw [ta_more (by assumption) (by assumption)]; simp [RpLe, L2, RcLe]; done)
           | (rw [ta_out (by assumption) (by assumption)]; simp [RpLe, L2, RcLe]; done)
           | (rw [ta_lo (by assumption) (by assumption)]; simp [RpLe, L2, RcLe]; done)
           | (rw [ta_hi (by assumption) (by assumption)]; simp [RpLe, L2, RcLe]; done)
           | (rw [ta_fail (by assumption) (by assumption) hx (by assumption)]; simp [RpLe, L2, RcLe]; done)
           | (rw [ta_yes (by assumption) (by assumption) hx (by assumption)]; simp [RpLe, L2, RcLe]; done)
           | (rw [ta_yes (by assumption) (by assumption) hx (by assumption)]; simp [RpLe, L2, RcLe, hne]; done)

end Go.Proofs.YtphaggopgdbojaaGreat
