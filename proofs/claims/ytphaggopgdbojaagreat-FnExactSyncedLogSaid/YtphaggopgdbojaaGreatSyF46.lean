/- Walks of functions of the program, printed by a program of the prover. -/
import Derived.Test.YtphaggopgdbojaaGreatSyF43
namespace Go.Proofs.YtphaggopgdbojaaGreat
open Go.ChangeShapes Go.WideShapes Go.ChangeAt Go.RowKit
set_option linter.unusedVariables false
set_option linter.unusedSimpArgs false
set_option maxHeartbeats 1000000
set_option maxRecDepth 100000
attribute [local irreducible] EvL Ev EvE Quiet Eff Pure RDk RDb RDo
theorem rowOk_of {l : List Int} (h1 : l.length ≤ 48) (h2 : NumsOk l) : rowOk l = true := by
  simp only [rowOk, Bool.and_eq_true, decide_eq_true_eq, List.all_eq_true]
  exact ⟨h1, h2⟩
theorem rowOk_torn {a b : List Int} (ha : rowOk a = true) (hb : rowOk b = true) : rowOk (tornF a b) = true := by
  obtain ⟨h1, h2⟩ := rowOk_nums ha
  obtain ⟨h3, h4⟩ := rowOk_nums hb
  refine rowOk_of ?_ fun x hx => ?_
  · simp only [tornF, List.length_append, List.length_take, List.length_drop]; omega
  · rcases List.mem_append.1 hx with hx | hx
    · exact h2 x (List.mem_of_mem_take hx)
    · exact h4 x (List.mem_of_mem_drop hx)
theorem rowOk_nil : rowOk [] = true := by decide
theorem wait_ok {d : Disk} (h : diskOk d = true) {k : Nat} (hk : k < d.wait.length) : hasAt d d.wait[k].1 = true ∧ rowOk d.wait[k].2 = true := by
  have := (diskOk_sizes h).2.2.2.2 _ (List.getElem_mem hk)
  simp only [writeOk, Bool.and_eq_true] at this
  exact this
theorem fallUp_ok {d : Disk} (h : diskOk d = true) (F : List Int) (all : Bool) : ∀ k, k ≤ d.wait.length → ∀ r ∈ fallUp d F all k, rowOk r = true
  | 0, _ => fun r hr => (diskOk_sizes h).2.2.2.1 r hr
  | k + 1, hk => fun r hr => by
    have ih := fallUp_ok h F all k (by omega)
    have hw := wait_ok h (k := k) (by omega)
    rw [show fallUp d F all (k + 1) = fallStep (fateAt F k) all (fallUp d F all k) d.wait[k] by simp only [fallUp]; rw [getD_lenW (show k < d.wait.length by omega)]] at hr
    have key : ∀ z : List Int, rowOk z = true → r ∈ (fallUp d F all k).set d.wait[k].1.toNat z → rowOk r = true := fun z hz hm => by
      rcases List.mem_or_eq_of_mem_set hm with h9 | h9
      · exact ih r h9
      · rw [h9]; exact hz
    simp only [fallStep] at hr
    split at hr
    · exact key _ hw.2 hr
    · split at hr
      · refine key _ (rowOk_torn hw.2 ?_) hr
        rw [List.getD_eq_getElem?_getD]
        cases h9 : (fallUp d F all k)[d.wait[k].1.toNat]? with
        | none => exact rowOk_nil
        | some r9 => exact ih r9 (List.mem_of_getElem? h9)
      · exact ih r hr
theorem fall_ok {d : Disk} (h : diskOk d = true) (F : List Int) (all : Bool) : diskOk (fallF d F all) = true := by
  rw [fall_yes h]
  have h1 := diskOk_sizes h
  have h2 := fallUp_len d F all d.wait.length
  simp only [diskOk, Bool.and_eq_true, decide_eq_true_eq, List.all_eq_true, List.length_nil]
  exact ⟨by omega, by omega, by omega, fun r hr => fallUp_ok h F all _ (Nat.le_refl _) r hr, by simp⟩
theorem fall_len {d : Disk} (h : diskOk d = true) (F : List Int) (all : Bool) : (fallF d F all).kept.length = d.kept.length := by
  rw [fall_yes h]; exact fallUp_len d F all _
theorem twoOk_iff {t : Two} : twoOk t = true ↔ diskOk t.a = true ∧ diskOk t.b = true ∧ t.a.kept.length = t.b.kept.length := by simp [twoOk]
theorem bsync_ok {t : Two} (h : twoOk t = true) : twoOk (bothSyncF t) = true := by
  obtain ⟨h1, h2, h3⟩ := twoOk_iff.1 h
  rw [bsync_yes h]
  exact twoOk_iff.2 ⟨fall_ok h1 _ _, fall_ok h2 _ _, by rw [fall_len h1, fall_len h2, h3]⟩
theorem keptOk_iff {t : Two} : keptOk t = true ↔ twoOk t = true ∧ t.a.kept.length = 22 := by simp [keptOk]
theorem log_all {n : LogN} (h : logOkF n = true) : keptOk n.two = true ∧ headOk n.head = true ∧ bookOk n.book = true ∧ n.book.base = n.head.base ∧ n.book.time = n.head.time := by
  simp only [logOkF, frontF, Bool.and_eq_true, decide_eq_true_eq] at h
  exact ⟨h.1.1, h.1.2.1, h.1.2.2.1, h.1.2.2.2.1, h.1.2.2.2.2⟩
theorem log_parts {n : LogN} (h : logOkF n = true) : frontF n = true ∧ midF n = true ∧ owesF n = true ∧ (if n.more then inB n.next.base (n.head.base + 1) n.durable && eqHd n.next (nextF n n.next.base) else eqHd n.next noHead) = true := by
  simp only [logOkF, Bool.and_eq_true] at h
  exact h
theorem log_seen {n : LogN} (h : logOkF n = true) : overL n.head.seen n.book.entries = some n.seen ∧ SOk n.head.seen ∧ SOk n.seen := by
  obtain ⟨_, hh, hb, _⟩ := log_all h
  have hm := (log_parts h).2.1
  simp only [midF, Bool.and_eq_true] at hm
  obtain ⟨c, hc⟩ := so_some hm.1
  have hs := sok_of (head_bd hh).2.2.2.2
  have e := so4 (of_sok hs) (by have := book_bd hb; omega) hc
  rw [e] at hm
  have := marks_eq hm.2.1
  simp only at this
  rw [← this]
  exact ⟨hc, hs, over_sok hs hc⟩
theorem eqHd_eq {a b : Head} (h : eqHd a b = true) : a = b := by
  simp only [eqHd, Bool.and_eq_true, decide_eq_true_eq] at h
  obtain ⟨h1, h2, h3, h4⟩ := h
  have := marks_eq h4
  cases a
  cases b
  simp_all
theorem log_next {n : LogN} (h : logOkF n = true) (hm : n.more = true) : headOk n.next = true ∧ n.head.base < n.next.base ∧ n.next.base ≤ n.durable ∧ n.next = nextF n n.next.base := by
  obtain ⟨h1, h2, h3, h4⟩ := log_parts h
  have h5 := next_same h1 h2 hm
  rw [if_pos hm] at h4
  rw [h4] at h5
  have h6 := h5.symm
  simp only [nextOkF, hm, if_true, Bool.and_eq_true] at h6
  simp only [Bool.and_eq_true] at h4
  have h7 := inB_iff.1 h4.1
  exact ⟨h6.1, by omega, by omega, eqHd_eq h4.2⟩
theorem log_less {n : LogN} (h : logOkF n = true) (hm : n.more = false) : n.next = noHead := by
  have h4 := (log_parts h).2.2.2
  rw [hm] at h4
  exact eqHd_eq h4
theorem acks_eq {l m : List Ack} (h : eqN Ack.nums l m = true) : l = m := by
  have h1 : l.map Ack.nums = m.map Ack.nums := of_decide_eq_true h
  have key : ∀ {l m : List Ack}, l.map Ack.nums = m.map Ack.nums → l = m := by
    intro l
    induction l with
    | nil => intro m h; cases m with
      | nil => rfl
      | cons _ _ => simp at h
    | cons a l ih =>
      intro m h
      cases m with
      | nil => simp at h
      | cons b m =>
        simp only [List.map_cons, List.cons.injEq] at h
        rw [Ack.ext' h.1, ih h.2]
  exact key h1
theorem log_owe {n : LogN} (h : logOkF n = true) : n.owe = (partF n.book (n.durable + 1) 2000).map ackF := acks_eq (log_parts h).2.2.1
theorem log_small {n : LogN} (h : logOkF n = true) : n.head.seen.length ≤ 4 ∧ n.next.seen.length ≤ 4 ∧ n.book.entries.length ≤ 20 ∧ n.seen.length ≤ 4 ∧ n.owe.length ≤ 20 := by
  obtain ⟨hk, hh, hb, _⟩ := log_all h
  have h1 := book_bd hb
  refine ⟨seen_len (head_bd hh).2.2.2.2, ?_, h1.2.2.1, seen_len (of_sok (log_seen h).2.2), ?_⟩
  · cases hm : n.more
    · rw [log_less h hm]; decide
    · exact seen_len (head_bd (log_next h hm).1).2.2.2.2
  · rw [log_owe h, List.length_map]
    have : (partF n.book (n.durable + 1) 2000).length ≤ n.book.entries.length := List.length_filter_le _ _
    omega
theorem log_two {n : LogN} (h : logOkF n = true) : twoOk n.two = true := (keptOk_iff.1 (log_all h).1).1
theorem zeroL_sm : smL zeroL := ⟨smT_zero, by decide, by decide, by decide, by decide, by decide⟩
theorem c_l8Entries (l : List Entry) (h : l.length ≤ 1048576) : Pure Tryz.prog 175 [one (entries l)] [one' (entriesR l)] := by
 refine pure_intro (N := 6) Tryz.func175 rfl rfl rfl rfl (fun H w => ?_)
 refine sq (rg (xs rfl rfl (nl (et (sq (rg (evl_e (e_lit ttOk rfl rfl rfl) (xm rfl rfl (evl_e (e_app_c ttOk rfl rfl rfl rfl rfl (flat_entries _) (by simp; omega) rfl rfl) (xs rfl rfl (nl (et (ev_ret (ret_pure' ttOk rfl rfl ?_))))))))))))))
 rfl
theorem c_l8Copy (b : Book) (h : b.entries.length ≤ 1048576) : Pure Tryz.prog 114 [many (bookC b)] [many' (bookR b)] := by
 refine pure_intro (N := 11) Tryz.func114 rfl rfl rfl rfl (fun H w => ?_)
 refine sq (rg (evl_e (e_box rfl rfl rfl rfl) (evl_e (e_alloc ttOk rfl rfl rfl rfl) (nl (et (sq (ev_drawq [8] mo (rdk_take 0 rfl (by kernel_rfl) trivial (q_fieldAddr ttOk rfl) rfl (rdk_take 1 rfl (by kernel_rfl) trivial (q_load ttOk rfl) rfl (rdk_take 2 rfl (by kernel_rfl) trivial (q_fieldAddr ttOk rfl) rfl (rdk_take 3 rfl (by kernel_rfl) trivial (q_load ttOk rfl) rfl (rdk_take 4 rfl (by kernel_rfl) trivial (q_fieldAddr ttOk rfl) rfl (rdk_take 5 rfl (by kernel_rfl) trivial (q_load ttOk rfl) rfl (rdk_one 6 (by kernel_rfl) (rdo_call (nm := 9) rfl trivial (cf rfl) (c_l8Entries b.entries h) (rs_of rfl) rfl rfl rfl (rdk_take 7 rfl (by kernel_rfl) trivial (q_build ttOk rfl) rfl (rdk_one 8 (by kernel_rfl) (rdo_brk rfl rfl trivial (e_store ttOk rfl) (rdb_endq (by kernel_rfl) (et (ev_ret (ret_pure' ttOk rfl rfl ?_))))))))))))))))))))))
 rfl
theorem flat_acks (l : List Ack) : ∀ cs ∈ l.map ackC, ∀ c ∈ cs, ∃ x, c = .v x := by
  intro cs h c hc
  obtain ⟨x, _, rfl⟩ := List.mem_map.1 h
  simp only [List.mem_cons, List.not_mem_nil, or_false] at hc
  rcases hc with rfl | rfl | rfl | rfl <;> exact ⟨_, rfl⟩
theorem c_l12Acks (l : List Ack) (h : l.length ≤ 1048576) : Pure Tryz.prog 105 [one (acks l)] [one' (acksR l)] := by
 refine pure_intro (N := 6) Tryz.func105 rfl rfl rfl rfl (fun H w => ?_)
 refine sq (rg (xs rfl rfl (nl (et (sq (rg (evl_e (e_lit ttOk rfl rfl rfl) (xm rfl rfl (evl_e (e_app_c ttOk rfl rfl rfl rfl rfl (flat_acks _) (by simp; omega) rfl rfl) (xs rfl rfl (nl (et (ev_ret (ret_pure' ttOk rfl rfl ?_))))))))))))))
 rfl
theorem c_l10Head (h : Head) (hs : h.seen.length ≤ 1048576) : Pure Tryz.prog 103 [many (headC h)] [many' (headR h)] := by
 refine pure_intro (N := 13) Tryz.func103 rfl rfl rfl rfl (fun H w => ?_)
 refine sq (rg (evl_e (e_box rfl rfl rfl rfl) (evl_e (e_alloc ttOk rfl rfl rfl rfl) (nl (et (sq (ev_drawq [10] mo (rdk_take 0 rfl (by kernel_rfl) trivial (q_fieldAddr ttOk rfl) rfl (rdk_take 1 rfl (by kernel_rfl) trivial (q_load ttOk rfl) rfl (rdk_take 2 rfl (by kernel_rfl) trivial (q_fieldAddr ttOk rfl) rfl (rdk_take 3 rfl (by kernel_rfl) trivial (q_load ttOk rfl) rfl (rdk_take 4 rfl (by kernel_rfl) trivial (q_fieldAddr ttOk rfl) rfl (rdk_take 5 rfl (by kernel_rfl) trivial (q_load ttOk rfl) rfl (rdk_take 6 rfl (by kernel_rfl) trivial (q_fieldAddr ttOk rfl) rfl (rdk_take 7 rfl (by kernel_rfl) trivial (q_load ttOk rfl) rfl (rdk_one 8 (by kernel_rfl) (rdo_call (nm := 11) rfl trivial (cf rfl) (c_l9Copy h.seen hs) (rs_of rfl) rfl rfl rfl (rdk_take 9 rfl (by kernel_rfl) trivial (q_build ttOk rfl) rfl (rdk_one 10 (by kernel_rfl) (rdo_brk rfl rfl trivial (e_store ttOk rfl) (rdb_endq (by kernel_rfl) (et (ev_ret (ret_pure' ttOk rfl rfl ?_))))))))))))))))))))))))
 rfl
theorem c_copyHead (h : Head) (hs : h.seen.length ≤ 1048576) : Pure Tryz.prog 128 [many (headC h)] [many' (headR h)] := by
 refine pure_intro (N := 13) Tryz.func128 rfl rfl rfl rfl (fun H w => ?_)
 refine sq (rg (evl_e (e_box rfl rfl rfl rfl) (evl_e (e_alloc ttOk rfl rfl rfl rfl) (nl (et (sq (ev_drawq [10] mo (rdk_take 0 rfl (by kernel_rfl) trivial (q_fieldAddr ttOk rfl) rfl (rdk_take 1 rfl (by kernel_rfl) trivial (q_load ttOk rfl) rfl (rdk_take 2 rfl (by kernel_rfl) trivial (q_fieldAddr ttOk rfl) rfl (rdk_take 3 rfl (by kernel_rfl) trivial (q_load ttOk rfl) rfl (rdk_take 4 rfl (by kernel_rfl) trivial (q_fieldAddr ttOk rfl) rfl (rdk_take 5 rfl (by kernel_rfl) trivial (q_load ttOk rfl) rfl (rdk_take 6 rfl (by kernel_rfl) trivial (q_fieldAddr ttOk rfl) rfl (rdk_take 7 rfl (by kernel_rfl) trivial (q_load ttOk rfl) rfl (rdk_one 8 (by kernel_rfl) (rdo_call (nm := 11) rfl trivial (cf rfl) (c_copySeen h.seen hs) (rs_of rfl) rfl rfl rfl (rdk_take 9 rfl (by kernel_rfl) trivial (q_build ttOk rfl) rfl (rdk_one 10 (by kernel_rfl) (rdo_brk rfl rfl trivial (e_store ttOk rfl) (rdb_endq (by kernel_rfl) (et (ev_ret (ret_pure' ttOk rfl rfl ?_))))))))))))))))))))))))
 rfl
theorem c_l12Copy (n : LogN) (h : logOkF n = true) : Pure Tryz.prog 49 [many (logC n)] [many' (logR (n))] := by
 refine pure_intro (N := 26) Tryz.func49 rfl rfl rfl rfl (fun H w => ?_)
 have hsm := log_small h
 refine sq (rg (evl_e (e_box rfl rfl rfl rfl) (evl_e (e_alloc ttOk rfl rfl rfl rfl) (nl (et (sq (ev_drawq [23] mo (rdk_take 0 rfl (by kernel_rfl) trivial (q_fieldAddr ttOk rfl) rfl (rdk_take 1 rfl (by kernel_rfl) trivial (q_load ttOk rfl) rfl (rdk_take 3 rfl (by kernel_rfl) trivial (q_fieldAddr ttOk rfl) rfl (rdk_take 4 rfl (by kernel_rfl) trivial (q_load ttOk rfl) rfl (rdk_take 6 rfl (by kernel_rfl) trivial (q_fieldAddr ttOk rfl) rfl (rdk_take 7 rfl (by kernel_rfl) trivial (q_load ttOk rfl) rfl (rdk_take 9 rfl (by kernel_rfl) trivial (q_fieldAddr ttOk rfl) rfl (rdk_take 10 rfl (by kernel_rfl) trivial (q_load ttOk rfl) rfl (rdk_take 11 rfl (by kernel_rfl) trivial (q_fieldAddr ttOk rfl) rfl (rdk_take 12 rfl (by kernel_rfl) trivial (q_load ttOk rfl) rfl (rdk_take 14 rfl (by kernel_rfl) trivial (q_fieldAddr ttOk rfl) rfl (rdk_take 15 rfl (by kernel_rfl) trivial (q_load ttOk rfl) rfl (rdk_take 17 rfl (by kernel_rfl) trivial (q_fieldAddr ttOk rfl) rfl (rdk_take 18 rfl (by kernel_rfl) trivial (q_load ttOk rfl) rfl (rdk_take 19 rfl (by kernel_rfl) trivial (q_fieldAddr ttOk rfl) rfl (rdk_take 20 rfl (by kernel_rfl) trivial (q_load ttOk rfl) rfl (rdk_one 2 (by kernel_rfl) (rdo_call (nm := 5) rfl trivial (cf rfl) (c_l4Copy n.two (log_two h)) (rs_of rfl) rfl rfl rfl (rdk_one 5 (by kernel_rfl) ?_))))))))))))))))))))))))))
 first | refine rdo_call (nm := 8) rfl trivial (cf rfl) (c_l10Head n.head (by omega)) (rs_of rfl) rfl rfl rfl ?_ | refine rdo_call (nm := 8) rfl trivial (cf rfl) (c_l10Head n.next (by omega)) (rs_of rfl) rfl rfl rfl ?_
 refine rdk_one 8 (by kernel_rfl) ?_
 first | refine rdo_call (nm := 11) rfl trivial (cf rfl) (c_l10Head n.head (by omega)) (rs_of rfl) rfl rfl rfl ?_ | refine rdo_call (nm := 11) rfl trivial (cf rfl) (c_l10Head n.next (by omega)) (rs_of rfl) rfl rfl rfl ?_
 refine rdk_one 13 (by kernel_rfl) (rdo_call (nm := 16) rfl trivial (cf rfl) (c_l8Copy n.book (by omega)) (rs_of rfl) rfl rfl rfl (rdk_one 16 (by kernel_rfl) (rdo_call (nm := 19) rfl trivial (cf rfl) (c_l9Copy n.seen (by omega)) (rs_of rfl) rfl rfl rfl (rdk_one 21 (by kernel_rfl) (rdo_call (nm := 24) rfl trivial (cf rfl) (c_l12Acks n.owe (by omega)) (rs_of rfl) rfl rfl rfl (rdk_take 22 rfl (by kernel_rfl) trivial (q_build ttOk rfl) rfl (rdk_one 23 (by kernel_rfl) (rdo_brk rfl rfl trivial (e_store ttOk rfl) (rdb_endq (by kernel_rfl) (et (ev_ret (ret_pure' ttOk rfl rfl ?_))))))))))))
 rfl
theorem c_copyLog (n : LogN) (h : logOkF n = true) : Pure Tryz.prog 57 [many (logC n)] [many' (logR (n))] := by
 refine pure_intro (N := 27) Tryz.func57 rfl rfl rfl rfl (fun H w => ?_)
 have hsm := log_small h
 refine sq (rg (evl_e (e_box rfl rfl rfl rfl) (evl_e (e_alloc ttOk rfl rfl rfl rfl) (nl (et (sq (ev_frz (cs := logC n) 1 rfl rfl rfl (fun HF1 hHF1 => ?_))))))))
 refine' ev_drawhJ mo ?hdr1 ?kdr1
 case hdr1 =>
   refine rdh_take 0 rfl (by kernel_rfl) trivial (QuietW.h (qw_fieldAddr ttOk rfl)) rfl (rdh_take 1 rfl (by kernel_rfl) trivial (q_loadH ttOk rfl rfl) rfl (rdh_take 3 rfl (by kernel_rfl) trivial (QuietW.h (qw_fieldAddr ttOk rfl)) rfl (rdh_take 4 rfl (by kernel_rfl) trivial (q_loadH ttOk rfl rfl) rfl (rdh_take 6 rfl (by kernel_rfl) trivial (QuietW.h (qw_fieldAddr ttOk rfl)) rfl (rdh_take 7 rfl (by kernel_rfl) trivial (q_loadH ttOk rfl rfl) rfl (rdh_take 9 rfl (by kernel_rfl) trivial (QuietW.h (qw_fieldAddr ttOk rfl)) rfl (rdh_take 10 rfl (by kernel_rfl) trivial (q_loadH ttOk rfl rfl) rfl (rdh_take 11 rfl (by kernel_rfl) trivial (QuietW.h (qw_fieldAddr ttOk rfl)) rfl (rdh_take 12 rfl (by kernel_rfl) trivial (q_loadH ttOk rfl rfl) rfl (rdh_take 14 rfl (by kernel_rfl) trivial (QuietW.h (qw_fieldAddr ttOk rfl)) rfl (rdh_take 15 rfl (by kernel_rfl) trivial (q_loadH ttOk rfl rfl) rfl (rdh_take 17 rfl (by kernel_rfl) trivial (QuietW.h (qw_fieldAddr ttOk rfl)) rfl (rdh_take 18 rfl (by kernel_rfl) trivial (q_loadH ttOk rfl rfl) rfl (rdh_take 20 rfl (by kernel_rfl) trivial (QuietW.h (qw_fieldAddr ttOk rfl)) rfl (rdh_take 21 rfl (by kernel_rfl) trivial (q_loadH ttOk rfl rfl) rfl (rdh_2 2 19 (by kernel_rfl) ?_ ?_))))))))))))))))
   · refine rdho_call (nm := 5) rfl trivial (cf rfl) (c_copyTwo n.two (log_two h)) (rs_of rfl) rfl rfl rfl (rdh_2 5 19 (by kernel_rfl) ?_ ?_)
     · first | refine rdho_call (nm := 8) rfl trivial (cf rfl) (c_copyHead n.head (by omega)) (rs_of rfl) rfl rfl rfl ?_ | refine rdho_call (nm := 8) rfl trivial (cf rfl) (c_copyHead n.next (by omega)) (rs_of rfl) rfl rfl rfl ?_
       refine rdh_2 8 19 (by kernel_rfl) ?_ ?_
       · first | refine rdho_call (nm := 11) rfl trivial (cf rfl) (c_copyHead n.head (by omega)) (rs_of rfl) rfl rfl rfl ?_ | refine rdho_call (nm := 11) rfl trivial (cf rfl) (c_copyHead n.next (by omega)) (rs_of rfl) rfl rfl rfl ?_
         refine rdh_2 13 19 (by kernel_rfl) ?_ ?_
         · refine rdho_call (nm := 16) rfl trivial (cf rfl) (c_copyBook n.book (by omega)) (rs_of rfl) rfl rfl rfl (rdh_2 16 19 (by kernel_rfl) ?_ ?_)
           · refine rdho_call (nm := 19) rfl trivial (cf rfl) (c_copySeen n.seen (by omega)) (rs_of rfl) rfl rfl rfl (rdh_1 19 (by kernel_rfl) (rdho_eff rfl trivial (e_lit ttOk rfl rfl rfl) (rdh_1 22 (by kernel_rfl) (rdho_eff rfl trivial (e_app_c ttOk rfl rfl rfl rfl rfl (flat_acks _) (by simp; omega) rfl rfl) (rdh_1 23 (by kernel_rfl) (rdho_q rfl trivial (q_build ttOk rfl) rfl (rdh_1 24 (by kernel_rfl) (rdho_eff rfl trivial (e_store ttOk rfl) ?_))))))))
             exact rdh_fin (by kernel_rfl)
           · refine rdho_eff rfl trivial (e_lit ttOk rfl rfl rfl) (rdh_1 16 (by kernel_rfl) (rdho_call (nm := 19) rfl trivial (cf rfl) (c_copySeen n.seen (by omega)) (rs_of rfl) rfl rfl rfl (rdh_1 22 (by kernel_rfl) (rdho_eff rfl trivial (e_app_c ttOk rfl rfl rfl rfl rfl (flat_acks _) (by simp; omega) rfl rfl) (rdh_1 23 (by kernel_rfl) (rdho_q rfl trivial (q_build ttOk rfl) rfl (rdh_1 24 (by kernel_rfl) (rdho_eff rfl trivial (e_store ttOk rfl) ?_))))))))
             exact rdh_le [] (by kernel_rfl) ⟨by (repeat first | exact trivial | refine ⟨rfl, ?_⟩), by (repeat first | exact trivial | refine ⟨rfl, ?_⟩), by (repeat first | exact trivial | refine ⟨⟨_, rfl, rfl⟩, ?_⟩), by (repeat first | exact trivial | refine ⟨⟨_, rfl, rfl⟩, ?_⟩), rfl⟩
         · refine rdho_eff rfl trivial (e_lit ttOk rfl rfl rfl) (rdh_1 13 (by kernel_rfl) (rdho_call (nm := 16) rfl trivial (cf rfl) (c_copyBook n.book (by omega)) (rs_of rfl) rfl rfl rfl (rdh_1 16 (by kernel_rfl) (rdho_call (nm := 19) rfl trivial (cf rfl) (c_copySeen n.seen (by omega)) (rs_of rfl) rfl rfl rfl (rdh_1 22 (by kernel_rfl) (rdho_eff rfl trivial (e_app_c ttOk rfl rfl rfl rfl rfl (flat_acks _) (by simp; omega) rfl rfl) (rdh_1 23 (by kernel_rfl) (rdho_q rfl trivial (q_build ttOk rfl) rfl (rdh_1 24 (by kernel_rfl) (rdho_eff rfl trivial (e_store ttOk rfl) ?_))))))))))
           exact rdh_le [] (by kernel_rfl) ⟨by (repeat first | exact trivial | refine ⟨rfl, ?_⟩), by (repeat first | exact trivial | refine ⟨rfl, ?_⟩), by (repeat first | exact trivial | refine ⟨⟨_, rfl, rfl⟩, ?_⟩), by (repeat first | exact trivial | refine ⟨⟨_, rfl, rfl⟩, ?_⟩), rfl⟩
       · refine rdho_eff rfl trivial (e_lit ttOk rfl rfl rfl) (rdh_1 8 (by kernel_rfl) ?_)
         first | refine rdho_call (nm := 11) rfl trivial (cf rfl) (c_copyHead n.head (by omega)) (rs_of rfl) rfl rfl rfl ?_ | refine rdho_call (nm := 11) rfl trivial (cf rfl) (c_copyHead n.next (by omega)) (rs_of rfl) rfl rfl rfl ?_
         refine rdh_1 13 (by kernel_rfl) (rdho_call (nm := 16) rfl trivial (cf rfl) (c_copyBook n.book (by omega)) (rs_of rfl) rfl rfl rfl (rdh_1 16 (by kernel_rfl) (rdho_call (nm := 19) rfl trivial (cf rfl) (c_copySeen n.seen (by omega)) (rs_of rfl) rfl rfl rfl (rdh_1 22 (by kernel_rfl) (rdho_eff rfl trivial (e_app_c ttOk rfl rfl rfl rfl rfl (flat_acks _) (by simp; omega) rfl rfl) (rdh_1 23 (by kernel_rfl) (rdho_q rfl trivial (q_build ttOk rfl) rfl (rdh_1 24 (by kernel_rfl) (rdho_eff rfl trivial (e_store ttOk rfl) ?_)))))))))
         exact rdh_le [] (by kernel_rfl) ⟨by (repeat first | exact trivial | refine ⟨rfl, ?_⟩), by (repeat first | exact trivial | refine ⟨rfl, ?_⟩), by (repeat first | exact trivial | refine ⟨⟨_, rfl, rfl⟩, ?_⟩), by (repeat first | exact trivial | refine ⟨⟨_, rfl, rfl⟩, ?_⟩), rfl⟩
     · refine rdho_eff rfl trivial (e_lit ttOk rfl rfl rfl) (rdh_1 5 (by kernel_rfl) ?_)
       first | refine rdho_call (nm := 8) rfl trivial (cf rfl) (c_copyHead n.head (by omega)) (rs_of rfl) rfl rfl rfl ?_ | refine rdho_call (nm := 8) rfl trivial (cf rfl) (c_copyHead n.next (by omega)) (rs_of rfl) rfl rfl rfl ?_
       refine rdh_1 8 (by kernel_rfl) ?_
       first | refine rdho_call (nm := 11) rfl trivial (cf rfl) (c_copyHead n.head (by omega)) (rs_of rfl) rfl rfl rfl ?_ | refine rdho_call (nm := 11) rfl trivial (cf rfl) (c_copyHead n.next (by omega)) (rs_of rfl) rfl rfl rfl ?_
       refine rdh_1 13 (by kernel_rfl) (rdho_call (nm := 16) rfl trivial (cf rfl) (c_copyBook n.book (by omega)) (rs_of rfl) rfl rfl rfl (rdh_1 16 (by kernel_rfl) (rdho_call (nm := 19) rfl trivial (cf rfl) (c_copySeen n.seen (by omega)) (rs_of rfl) rfl rfl rfl (rdh_1 22 (by kernel_rfl) (rdho_eff rfl trivial (e_app_c ttOk rfl rfl rfl rfl rfl (flat_acks _) (by simp; omega) rfl rfl) (rdh_1 23 (by kernel_rfl) (rdho_q rfl trivial (q_build ttOk rfl) rfl (rdh_1 24 (by kernel_rfl) (rdho_eff rfl trivial (e_store ttOk rfl) ?_)))))))))
       exact rdh_le [] (by kernel_rfl) ⟨by (repeat first | exact trivial | refine ⟨rfl, ?_⟩), by (repeat first | exact trivial | refine ⟨rfl, ?_⟩), by (repeat first | exact trivial | refine ⟨⟨_, rfl, rfl⟩, ?_⟩), by (repeat first | exact trivial | refine ⟨⟨_, rfl, rfl⟩, ?_⟩), rfl⟩
   · refine rdho_eff rfl trivial (e_lit ttOk rfl rfl rfl) (rdh_1 2 (by kernel_rfl) (rdho_call (nm := 5) rfl trivial (cf rfl) (c_copyTwo n.two (log_two h)) (rs_of rfl) rfl rfl rfl (rdh_1 5 (by kernel_rfl) ?_)))
     first | refine rdho_call (nm := 8) rfl trivial (cf rfl) (c_copyHead n.head (by omega)) (rs_of rfl) rfl rfl rfl ?_ | refine rdho_call (nm := 8) rfl trivial (cf rfl) (c_copyHead n.next (by omega)) (rs_of rfl) rfl rfl rfl ?_
     refine rdh_1 8 (by kernel_rfl) ?_
     first | refine rdho_call (nm := 11) rfl trivial (cf rfl) (c_copyHead n.head (by omega)) (rs_of rfl) rfl rfl rfl ?_ | refine rdho_call (nm := 11) rfl trivial (cf rfl) (c_copyHead n.next (by omega)) (rs_of rfl) rfl rfl rfl ?_
     refine rdh_1 13 (by kernel_rfl) (rdho_call (nm := 16) rfl trivial (cf rfl) (c_copyBook n.book (by omega)) (rs_of rfl) rfl rfl rfl (rdh_1 16 (by kernel_rfl) (rdho_call (nm := 19) rfl trivial (cf rfl) (c_copySeen n.seen (by omega)) (rs_of rfl) rfl rfl rfl (rdh_1 22 (by kernel_rfl) (rdho_eff rfl trivial (e_app_c ttOk rfl rfl rfl rfl rfl (flat_acks _) (by simp; omega) rfl rfl) (rdh_1 23 (by kernel_rfl) (rdho_q rfl trivial (q_build ttOk rfl) rfl (rdh_1 24 (by kernel_rfl) (rdho_eff rfl trivial (e_store ttOk rfl) ?_)))))))))
     exact rdh_le [] (by kernel_rfl) ⟨by (repeat first | exact trivial | refine ⟨rfl, ?_⟩), by (repeat first | exact trivial | refine ⟨rfl, ?_⟩), by (repeat first | exact trivial | refine ⟨⟨_, rfl, rfl⟩, ?_⟩), by (repeat first | exact trivial | refine ⟨⟨_, rfl, rfl⟩, ?_⟩), rfl⟩
 refine et (ev_ret (retH rfl (ret_pure' ttOk rfl rfl ?_)))
 rfl

end Go.Proofs.YtphaggopgdbojaaGreat
namespace Go.Proofs.YtphaggopgdbojaaGreat
open Go.ChangeShapes Go.WideShapes Go.ChangeAt Go.RowKit
set_option linter.unusedVariables false
set_option linter.unusedSimpArgs false
set_option maxHeartbeats 1000000
set_option maxRecDepth 100000
attribute [local irreducible] EvL Ev EvE Quiet Eff Pure RDk RDb RDo
def trimF (b : Book) (x : Int) : Book × Bool := if bookOk b then if inB x b.base (lastB b) then (⟨x, timeAtF b x, b.entries.drop (x - b.base).toNat⟩, true) else (b, false) else (⟨0, 0, []⟩, false)
theorem tr_no1 {b : Book} {x : Int} (h : bookOk b = false) : trimF b x = (⟨0, 0, []⟩, false) := by simp [trimF, h]
theorem tr_no2 {b : Book} {x : Int} (h : bookOk b = true) (h2 : inB x b.base (lastB b) = false) : trimF b x = (b, false) := by simp [trimF, h, h2]
theorem tr_yes {b : Book} {x : Int} (h : bookOk b = true) (h2 : inB x b.base (lastB b) = true) : trimF b x = (⟨x, timeAtF b x, b.entries.drop (x - b.base).toNat⟩, true) := by simp [trimF, h, h2]
theorem tr_more {b : Book} {x : Int} {m : Nat} (h : bookOk b = true) (h2 : inB x b.base (lastB b) = true) (h3 : x - b.base - 1 = (m : Int)) (hm : m < b.entries.length) : trimF b x = (⟨x, b.entries[m].time, b.entries.drop (x - b.base).toNat⟩, true) := by
  rw [tr_yes h h2]
  unfold timeAtF
  rw [if_neg (by omega), atB_eq h3 hm]
theorem tr_same {b : Book} {x : Int} (h : bookOk b = true) (h2 : inB x b.base (lastB b) = true) (h3 : ¬ x > b.base) : trimF b x = (b, true) := by
  have h4 := inB_iff.1 h2
  have : x = b.base := by omega
  subst this
  rw [tr_yes h h2]
  simp [timeAtF]
def syncedF (n : LogN) : LogN × List Ack := if logOkF n then (if n.more then ⟨bothSyncF n.two, n.next, noHead, false, (trimF n.book n.next.base).1, n.seen, lastB n.book, []⟩ else ⟨bothSyncF n.two, n.head, n.next, false, n.book, n.seen, lastB n.book, []⟩, n.owe) else (zeroL, [])
theorem sy_no {n : LogN} (h : logOkF n = false) : syncedF n = (zeroL, []) := by simp [syncedF, h]
theorem sy_more {n : LogN} (h : logOkF n = true) (h2 : n.more = true) : syncedF n = (⟨bothSyncF n.two, n.next, noHead, false, (trimF n.book n.next.base).1, n.seen, lastB n.book, []⟩, n.owe) := by simp [syncedF, h, h2]
theorem sy_less {n : LogN} (h : logOkF n = true) (h2 : n.more = false) : syncedF n = (⟨bothSyncF n.two, n.head, n.next, n.more, n.book, n.seen, lastB n.book, []⟩, n.owe) := by simp [syncedF, h, h2]
theorem trim_len (b : Book) (x : Int) : (trimF b x).1.entries.length ≤ b.entries.length := by
  unfold trimF
  split
  · split
    · simp
    · exact Nat.le_refl _
  · simp
theorem synced_sm (n : LogN) : smL (syncedF n).1 ∧ (syncedF n).2.length ≤ 1048576 := by
  cases h : logOkF n
  · rw [sy_no h]; exact ⟨zeroL_sm, by simp⟩
  · obtain ⟨h1, h2, h3, h4, h5⟩ := log_small h
    have h6 := trim_len n.book n.next.base
    cases hm : n.more
    · rw [sy_less h hm]
      exact ⟨⟨smT_ok (bsync_ok (log_two h)), by simp only; omega, by simp only; omega, by simp only; omega, by simp only; omega, by simp⟩, by simp only; omega⟩
    · rw [sy_more h hm]
      exact ⟨⟨smT_ok (bsync_ok (log_two h)), by simp only; omega, by simp [noHead], by simp only; omega, by simp only; omega, by simp⟩, by simp only; omega⟩
theorem c_TrimmedTo (b : Book) (x : Int) : Pure Tryz.prog 104 [many (bookC b), one (iC x)] [many' (bookR (trimF b x).1), one' (RC.v (.bool (trimF b x).2))] := by
 refine pure_intro (N := 32) Tryz.func104 rfl rfl rfl rfl (fun H w => ?_)
 refine sq (rg (evl_e (e_box rfl rfl rfl rfl) (evl_e (e_alloc ttOk rfl rfl rfl rfl) (xs rfl rfl (nl (et (sq (sq (rg (xl ttOk rfl rfl (evl_call (nm := 7) (cf rfl) (c_BookOk b) (rs_of rfl) rfl rfl rfl (xo (q_not rfl) rfl (nl (et (ev_cond_n rfl (fun h1 => ?_) (fun h1 => ?_))))))))))))))))
 · refine sq (rg (xo (q_build ttOk rfl) rfl (xst ttOk rfl rfl (xs rfl rfl (nl (et (ev_ret (evr_then (ret_pureN ttOk rfl rfl ?_)))))))))
   first
   | (rw [tr_no1 (by assumption)]; simp [RpLe, L2, RcLe]; done)
   | (rw [tr_no2 (by assumption) (by assumption)]; simp [RpLe, L2, RcLe]; done)
   | (rw [tr_yes (by assumption) (by assumption)]; simp [RpLe, L2, RcLe]; done)
 · have hbd := book_bd h1
   refine ev_skip (et (sq (sq (ev_drawq [] mo (rdk_take 0 rfl (by kernel_rfl) trivial (q_move rfl) rfl (rdk_take 1 rfl (by kernel_rfl) trivial (q_fieldAddr ttOk rfl) rfl (rdk_take 2 rfl (by kernel_rfl) trivial (q_load ttOk rfl) rfl (rdk_take 3 rfl (by kernel_rfl) trivial (q_load ttOk rfl) rfl (rdk_one 4 (by kernel_rfl) (rdo_call (nm := 14) rfl trivial (cf rfl) (c_l8Last b (by assumption)) (rs_of rfl) rfl rfl rfl (rdk_one 5 (by kernel_rfl) (rdo_call (nm := 15) rfl trivial (cf rfl) (c_l1In _ _ _) (rs_of rfl) rfl rfl rfl (rdk_take 6 rfl (by kernel_rfl) trivial (q_not rfl) rfl (rdk_endq (by kernel_rfl) (et (ev_cond_n rfl (fun h2 => ?_) (fun h2 => ?_)))))))))))))))))
   · refine sq (rg (xl ttOk rfl rfl (evl_call (nm := 18) (cf rfl) (c_l8Copy b (by omega)) (rs_of rfl) rfl rfl rfl (xst ttOk rfl rfl (xs rfl rfl (nl (et (ev_ret (evr_then (ret_pureN ttOk rfl rfl ?_))))))))))
     first
     | (rw [tr_no1 (by assumption)]; simp [RpLe, L2, RcLe]; done)
     | (rw [tr_no2 (by assumption) (by assumption)]; simp [RpLe, L2, RcLe]; done)
     | (rw [tr_yes (by assumption) (by assumption)]; simp [RpLe, L2, RcLe]; done)
   · refine ev_skip (et (sq ?_))
     have hrg := inB_iff.1 (show inB x b.base (lastB b) = true by assumption)
     have hla : lastB b = b.base + b.entries.length := rfl
     refine ev_drawq [13] mo (rdk_take 0 rfl (by kernel_rfl) trivial (q_move rfl) rfl (rdk_take 1 rfl (by kernel_rfl) trivial (q_load ttOk rfl) rfl (rdk_take 2 rfl (by kernel_rfl) trivial (q_move rfl) rfl (rdk_take 4 rfl (by kernel_rfl) trivial (q_fieldAddr ttOk rfl) rfl (rdk_take 5 rfl (by kernel_rfl) trivial (q_load ttOk rfl) rfl (rdk_take 6 rfl (by kernel_rfl) trivial (q_move rfl) rfl (rdk_take 7 rfl (by kernel_rfl) trivial (q_fieldAddr ttOk rfl) rfl (rdk_take 8 rfl (by kernel_rfl) trivial (q_load ttOk rfl) rfl (rdk_take 9 rfl (by kernel_rfl) trivial (q_ar rfl rfl rfl (by omega)) rfl (rdk_take 10 rfl (by kernel_rfl) trivial (q_sl_from_map (k := (x - b.base).toNat) ttOk rfl rfl rfl (by omega) (by omega)) rfl (rdk_one 3 (by kernel_rfl) (rdo_call (nm := 22) rfl trivial (cf rfl) (c_l8TimeAt b x (by assumption) hrg) (rs_of rfl) rfl rfl rfl (rdk_one 11 (by kernel_rfl) (rdo_call (nm := 30) rfl trivial (cf rfl) (c_l8Entries (b.entries.drop (x - b.base).toNat) (by simp; omega)) (rs_of rfl) rfl rfl rfl (rdk_take 12 rfl (by kernel_rfl) trivial (q_build ttOk rfl) rfl (rdk_one 13 (by kernel_rfl) (rdo_brk rfl rfl trivial (e_store ttOk rfl) (rdb_q 14 rfl (by kernel_rfl) trivial (q_assign rfl) rfl (rdb_endq (by kernel_rfl) (et (ev_ret (ret_pureN ttOk rfl rfl ?_))))))))))))))))))))))
     first
     | (rw [tr_no1 (by assumption)]; simp [RpLe, L2, RcLe]; done)
     | (rw [tr_no2 (by assumption) (by assumption)]; simp [RpLe, L2, RcLe]; done)
     | (rw [tr_yes (by assumption) (by assumption)]; simp [RpLe, L2, RcLe]; done)
theorem c_TrimmedTo' (b : Book) (x : Int) : Pure Tryz.prog 106 [many (bookC b), one (iC x)] [many' (bookR (trimF b x).1), one' (RC.v (.bool (trimF b x).2))] := by
 refine pure_intro (N := 49) Tryz.func106 rfl rfl rfl rfl (fun H w => ?_)
 refine sq (rg (evl_e (e_box rfl rfl rfl rfl) (evl_e (e_alloc ttOk rfl rfl rfl rfl) (xs rfl rfl (nl (et (sq (sq (rg (xl ttOk rfl rfl (evl_call (nm := 8) (cf rfl) (c_BookOk' b) (rs_of rfl) rfl rfl rfl (xo (q_not rfl) rfl (nl (et (ev_cond_n rfl (fun h1 => ?_) (fun h1 => ?_))))))))))))))))
 · try have d1 := of_decide_eq_false h1
   refine sq (rg (xo (q_build ttOk rfl) rfl (xst ttOk rfl rfl (xs rfl rfl (nl (et (ev_ret (evr_then (ret_pureN ttOk rfl rfl ?_)))))))))
   first
   | (rw [tr_no1 (by assumption)]; simp [RpLe, L2, RcLe]; done)
   | (rw [tr_no2 (by assumption) (by assumption)]; simp [RpLe, L2, RcLe]; done)
   | (rw [tr_more (by assumption) (by assumption) hm1 hm2]; simp [RpLe, L2, RcLe]; done)
   | (rw [tr_same (by assumption) (by assumption) (by assumption)]; simp [RpLe, L2, RcLe]; done)
 · try have d1 := of_decide_eq_true h1
   have hbd := book_bd h1
   refine ev_skip (et (sq (rg (xl ttOk rfl rfl (evl_call (nm := 12) (cf rfl) (c_copyBook b (by omega)) (rs_of rfl) rfl rfl rfl (evl_e (e_alloc ttOk rfl rfl rfl rfl) (xst ttOk rfl rfl (nl (et (sq (sq (ev_drawq [] mo (rdk_take 0 rfl (by kernel_rfl) trivial (q_move rfl) rfl (rdk_take 1 rfl (by kernel_rfl) trivial (q_fieldAddr ttOk rfl) rfl (rdk_take 2 rfl (by kernel_rfl) trivial (q_load ttOk rfl) rfl (rdk_take 3 rfl (by kernel_rfl) trivial (q_load ttOk rfl) rfl (rdk_one 4 (by kernel_rfl) (rdo_call (nm := 17) rfl trivial (cf rfl) (c_lastOf b (by assumption)) (rs_of rfl) rfl rfl rfl (rdk_one 5 (by kernel_rfl) (rdo_call (nm := 18) rfl trivial (cf rfl) (c_between _ _ _) (rs_of rfl) rfl rfl rfl (rdk_take 6 rfl (by kernel_rfl) trivial (q_not rfl) rfl (rdk_endq (by kernel_rfl) (et (ev_cond_n rfl (fun h2 => ?_) (fun h2 => ?_)))))))))))))))))))))))))
   · try have d2 := of_decide_eq_false h2
     refine sq (rg (xl ttOk rfl rfl (xst ttOk rfl rfl (xs rfl rfl (nl (et (ev_ret (evr_then (ret_pureN ttOk rfl rfl ?_)))))))))
     first
     | (rw [tr_no1 (by assumption)]; simp [RpLe, L2, RcLe]; done)
     | (rw [tr_no2 (by assumption) (by assumption)]; simp [RpLe, L2, RcLe]; done)
     | (rw [tr_more (by assumption) (by assumption) hm1 hm2]; simp [RpLe, L2, RcLe]; done)
     | (rw [tr_same (by assumption) (by assumption) (by assumption)]; simp [RpLe, L2, RcLe]; done)
   · try have d2 := of_decide_eq_true h2
     refine ev_skip (et (sq (sq ?_)))
     have hrg := inB_iff.1 (show inB x b.base (lastB b) = true by assumption)
     have hla : lastB b = b.base + b.entries.length := rfl
     refine rg (xm rfl rfl (xf ttOk rfl rfl (xl ttOk rfl rfl (xb ttOk rfl rfl (nl (et (ev_cond rfl (fun h3 => ?_) (fun h3 => ?_))))))))
     · try have d3 := of_decide_eq_true h3
       refine sq ?_
       obtain ⟨m, hm1, hm2⟩ := at_get (b := b) (x := x) (by omega) hrg.2
       refine rg (xf ttOk rfl rfl (xl ttOk rfl rfl (xm rfl rfl (xf ttOk rfl rfl (xl ttOk rfl rfl (xa rfl rfl rfl (by omega) rfl (xa rfl rfl rfl (by omega) rfl (xo (q_ix_map (m := m) ttOk rfl rfl rfl (by omega) (by omega)) rfl (xf ttOk rfl rfl (xl ttOk rfl rfl (xf ttOk rfl rfl (xst ttOk rfl rfl (nl (et (sq (rg (xm rfl rfl (xf ttOk rfl rfl (xst ttOk rfl rfl (nl (et (rg (evl_e (e_lit ttOk rfl rfl rfl) (xf ttOk rfl rfl (xl ttOk rfl rfl (xm rfl rfl (xf ttOk rfl rfl (xl ttOk rfl rfl (xa rfl rfl rfl (by omega) rfl (xo (q_sl_from_map (k := (x - b.base).toNat) ttOk rfl rfl rfl (by omega) (by omega)) rfl (evl_e (e_app_c ttOk rfl rfl rfl rfl rfl (flat_entries _) (by simp; omega) rfl rfl) (xf ttOk rfl rfl (xst ttOk rfl rfl (nl (et (sq (rg (xl ttOk rfl rfl (xst ttOk rfl rfl (xs rfl rfl (nl (et (ev_ret (ret_pureN ttOk rfl rfl ?_))))))))))))))))))))))))))))))))))))))))))))
       first
       | (rw [tr_no1 (by assumption)]; simp [RpLe, L2, RcLe]; done)
       | (rw [tr_no2 (by assumption) (by assumption)]; simp [RpLe, L2, RcLe]; done)
       | (rw [tr_more (by assumption) (by assumption) hm1 hm2]; simp [RpLe, L2, RcLe]; done)
       | (rw [tr_same (by assumption) (by assumption) (by assumption)]; simp [RpLe, L2, RcLe]; done)
     · try have d3 := of_decide_eq_false h3
       refine ev_skip (et (sq (rg (xl ttOk rfl rfl (xst ttOk rfl rfl (xs rfl rfl (nl (et (ev_ret (ret_pureN ttOk rfl rfl ?_))))))))))
       first
       | (rw [tr_no1 (by assumption)]; simp [RpLe, L2, RcLe]; done)
       | (rw [tr_no2 (by assumption) (by assumption)]; simp [RpLe, L2, RcLe]; done)
       | (rw [tr_more (by assumption) (by assumption) hm1 hm2]; simp [RpLe, L2, RcLe]; done)
       | (rw [tr_same (by assumption) (by assumption) (by assumption)]; simp [RpLe, L2, RcLe]; done)
theorem c_SyncedLog (n : LogN) : Pure Tryz.prog 40 [many (logC n)] [many' (logR ((syncedF n).1)), one' (acksR (syncedF n).2)] := by
 refine pure_intro (N := 45) Tryz.func40 rfl rfl rfl rfl (fun H w => ?_)
 refine sq (rg (evl_e (e_box rfl rfl rfl rfl) (evl_e (e_alloc ttOk rfl rfl rfl rfl) (xs rfl rfl (nl (et (sq (sq (rg (xl ttOk rfl rfl (evl_call (nm := 6) (cf rfl) (c_LogOk n) (rs_of rfl) rfl rfl rfl (xo (q_not rfl) rfl (nl (et (ev_cond_n rfl (fun h1 => ?_) (fun h1 => ?_))))))))))))))))
 · refine sq (rg (xo (q_build ttOk rfl) rfl (evl_e (e_lit ttOk rfl rfl rfl) (xst ttOk rfl rfl (xs rfl rfl (nl (et (ev_ret (evr_then (ret_pureN ttOk rfl rfl ?_))))))))))
   first
   | (rw [sy_no (by assumption)]; simp [RpLe, L2, RcLe, zeroL, zeroD, zeroT, noHead]; done)
   | (rw [sy_more (by assumption) (by assumption)]; simp [RpLe, L2, RcLe, noHead]; done)
   | (rw [sy_less (by assumption) (by assumption)]; simp [RpLe, L2, RcLe, noHead]; done)
 · obtain ⟨hk, hh, hb, he1, he2⟩ := log_all h1
   have hsm := log_small h1
   have hbd := book_bd hb
   refine ev_skip (et (sq (rg (xl ttOk rfl rfl (evl_call (nm := 11) (cf rfl) (c_l12Copy n (by assumption)) (rs_of rfl) rfl rfl rfl (evl_e (e_alloc ttOk rfl rfl rfl rfl) (xst ttOk rfl rfl (nl (et (sq (rg (xf ttOk rfl rfl (xl ttOk rfl rfl (evl_call (nm := 14) (cf rfl) (c_BothSynced n.two) (rs_of rfl) rfl rfl rfl (xf ttOk rfl rfl (xst ttOk rfl rfl (nl (et (sq (rg (xf ttOk rfl rfl (xl ttOk rfl rfl (evl_call (nm := 18) (cf rfl) (c_l8Last n.book hb) (rs_of rfl) rfl rfl rfl (xf ttOk rfl rfl (xst ttOk rfl rfl (nl (et (sq (sq (rg (xf ttOk rfl rfl (xl ttOk rfl rfl (nl (et (ev_cond rfl (fun h2 => ?_) (fun h2 => ?_))))))))))))))))))))))))))))))))))))
   · refine sq (rg (xf ttOk rfl rfl (xl ttOk rfl rfl (evl_call (nm := 24) (cf rfl) (c_l10Head n.next (by omega)) (rs_of rfl) rfl rfl rfl (xf ttOk rfl rfl (xst ttOk rfl rfl (nl (et (sq (rg (xo (q_build ttOk rfl) rfl (xf ttOk rfl rfl (xst ttOk rfl rfl (nl (et (sq (rg (xf ttOk rfl rfl (xst ttOk rfl rfl (nl (et (rg (xf ttOk rfl rfl (xl ttOk rfl rfl (xf ttOk rfl rfl (xf ttOk rfl rfl (xl ttOk rfl rfl (evl_call (nm := 35) (cf rfl) (c_TrimmedTo n.book n.next.base) (rs_of rfl) rfl rfl rfl (xm rfl rfl (xo (q_ext rfl) rfl (xo (q_ext rfl) rfl (xf ttOk rfl rfl (xst ttOk rfl rfl (nl (et (sq (rg (evl_e (e_lit ttOk rfl rfl rfl) (xf ttOk rfl rfl (xst ttOk rfl rfl (nl (et (sq (ev_drawq [4] mo (rdk_take 0 rfl (by kernel_rfl) trivial (q_load ttOk rfl) rfl (rdk_take 1 rfl (by kernel_rfl) trivial (q_fieldAddr ttOk rfl) rfl (rdk_take 2 rfl (by kernel_rfl) trivial (q_load ttOk rfl) rfl (rdk_one 3 (by kernel_rfl) (rdo_call (nm := 44) rfl trivial (cf rfl) (c_l12Acks n.owe (by omega)) (rs_of rfl) rfl rfl rfl (rdk_one 4 (by kernel_rfl) ?_))))))))))))))))))))))))))))))))))))))))))))))))))
     refine rdo_brk rfl rfl trivial (e_store ttOk rfl) (rdb_q 5 rfl (by kernel_rfl) trivial (q_assign rfl) rfl (rdb_endq (by kernel_rfl) (et (ev_ret (ret_pureN ttOk rfl rfl ?_)))))
     first
     | (rw [sy_no (by assumption)]; simp [RpLe, L2, RcLe, zeroL, zeroD, zeroT, noHead]; done)
     | (rw [sy_more (by assumption) (by assumption)]; simp [RpLe, L2, RcLe, noHead]; done)
     | (rw [sy_less (by assumption) (by assumption)]; simp [RpLe, L2, RcLe, noHead]; done)
   · refine ev_skip (et (sq (rg (evl_e (e_lit ttOk rfl rfl rfl) (xf ttOk rfl rfl (xst ttOk rfl rfl (nl (et (sq (ev_drawq [4] mo (rdk_take 0 rfl (by kernel_rfl) trivial (q_load ttOk rfl) rfl (rdk_take 1 rfl (by kernel_rfl) trivial (q_fieldAddr ttOk rfl) rfl (rdk_take 2 rfl (by kernel_rfl) trivial (q_load ttOk rfl) rfl (rdk_one 3 (by kernel_rfl) (rdo_call (nm := 44) rfl trivial (cf rfl) (c_l12Acks n.owe (by omega)) (rs_of rfl) rfl rfl rfl (rdk_one 4 (by kernel_rfl) (rdo_brk rfl rfl trivial (e_store ttOk rfl) (rdb_q 5 rfl (by kernel_rfl) trivial (q_assign rfl) rfl (rdb_endq (by kernel_rfl) (et (ev_ret (ret_pureN ttOk rfl rfl ?_))))))))))))))))))))))
     first
     | (rw [sy_no (by assumption)]; simp [RpLe, L2, RcLe, zeroL, zeroD, zeroT, noHead]; done)
     | (rw [sy_more (by assumption) (by assumption)]; simp [RpLe, L2, RcLe, noHead]; done)
     | (rw [sy_less (by assumption) (by assumption)]; simp [RpLe, L2, RcLe, noHead]; done)
theorem c_SyncedLog' (n : LogN) : Pure Tryz.prog 41 [many (logC n)] [many' (logR ((syncedF n).1)), one' (acksR (syncedF n).2)] := by
 refine pure_intro (N := 43) Tryz.func41 rfl rfl rfl rfl (fun H w => ?_)
 refine sq (rg (evl_e (e_box rfl rfl rfl rfl) (evl_e (e_alloc ttOk rfl rfl rfl rfl) (xs rfl rfl (nl (et (sq (sq (rg (xl ttOk rfl rfl (evl_call (nm := 7) (cf rfl) (c_LogOk2 n) (rs_of rfl) rfl rfl rfl (xo (q_not rfl) rfl (nl (et (ev_cond_n rfl (fun h1 => ?_) (fun h1 => ?_))))))))))))))))
 · refine sq (rg (xo (q_build ttOk rfl) rfl (xst ttOk rfl rfl (xs rfl rfl (nl (et (ev_ret (evr_then (ret_pureN ttOk rfl rfl ?_)))))))))
   first
   | (rw [sy_no (by assumption)]; simp [RpLe, L2, RcLe, zeroL, zeroD, zeroT, noHead]; done)
   | (rw [sy_more (by assumption) (by assumption)]; simp [RpLe, L2, RcLe, noHead]; done)
   | (rw [sy_less (by assumption) (by assumption)]; simp [RpLe, L2, RcLe, noHead]; done)
 · obtain ⟨hk, hh, hb, he1, he2⟩ := log_all h1
   have hsm := log_small h1
   have hbd := book_bd hb
   refine ev_skip (et (sq (rg (xl ttOk rfl rfl (evl_call (nm := 11) (cf rfl) (c_copyLog n (by assumption)) (rs_of rfl) rfl rfl rfl (evl_e (e_alloc ttOk rfl rfl rfl rfl) (xst ttOk rfl rfl (nl (et (sq (rg (xf ttOk rfl rfl (xl ttOk rfl rfl (xs rfl rfl (nl (et (sq (ev_drawq [7, 9, 11] mo (rdk_take 0 rfl (by kernel_rfl) trivial (q_fieldAddr ttOk rfl) rfl (rdk_take 1 rfl (by kernel_rfl) trivial (q_load ttOk rfl) rfl (rdk_take 3 rfl (by kernel_rfl) trivial (q_fieldAddr ttOk rfl) rfl (rdk_take 4 rfl (by kernel_rfl) trivial (q_load ttOk rfl) rfl (rdk_one 2 (by kernel_rfl) (rdo_call (nm := 16) rfl trivial (cf rfl) (c_BothSynced' n.two) (rs_of rfl) rfl rfl rfl (rdk_take 6 rfl (by kernel_rfl) trivial (q_fieldAddr ttOk rfl) rfl (rdk_one 5 (by kernel_rfl) (rdo_call (nm := 19) rfl trivial (cf rfl) (c_lastOf n.book hb) (rs_of rfl) rfl rfl rfl (rdk_one 7 (by kernel_rfl) (rdo_brk rfl rfl trivial (e_store ttOk rfl) (rdb_q 8 rfl (by kernel_rfl) trivial (q_fieldAddr ttOk rfl) rfl (rdb_eff 9 rfl (by kernel_rfl) trivial (e_store ttOk rfl) (rdb_q 10 rfl (by kernel_rfl) trivial (q_fieldAddr ttOk rfl) rfl (rdb_eff 11 rfl (by kernel_rfl) trivial (e_store ttOk rfl) (rdb_endq (by kernel_rfl) (et (sq (sq (rg (xf ttOk rfl rfl (xl ttOk rfl rfl (nl (et (ev_cond rfl (fun h2 => ?_) (fun h2 => ?_))))))))))))))))))))))))))))))))))))))))))))
   · refine sq (rg (xf ttOk rfl rfl (xl ttOk rfl rfl (xf ttOk rfl rfl (xf ttOk rfl rfl (xl ttOk rfl rfl (evl_call (nm := 31) (cf rfl) (c_TrimmedTo' n.book n.next.base) (rs_of rfl) rfl rfl rfl (xm rfl rfl (xo (q_ext rfl) rfl (xo (q_ext rfl) rfl (xf ttOk rfl rfl (xst ttOk rfl rfl (nl (et (rg (xf ttOk rfl rfl (xl ttOk rfl rfl (xo (q_build ttOk rfl) rfl (xf ttOk rfl rfl (xst ttOk rfl rfl (xf ttOk rfl rfl (xst ttOk rfl rfl (xf ttOk rfl rfl (xst ttOk rfl rfl (nl (et (sq (rg (xl ttOk rfl rfl (xm rfl rfl (xst ttOk rfl rfl (xs rfl rfl (nl (et (ev_ret (ret_pureN ttOk rfl rfl ?_))))))))))))))))))))))))))))))))))))
     first
     | (rw [sy_no (by assumption)]; simp [RpLe, L2, RcLe, zeroL, zeroD, zeroT, noHead]; done)
     | (rw [sy_more (by assumption) (by assumption)]; simp [RpLe, L2, RcLe, noHead]; done)
     | (rw [sy_less (by assumption) (by assumption)]; simp [RpLe, L2, RcLe, noHead]; done)
   · refine ev_skip (et (sq (rg (xl ttOk rfl rfl (xm rfl rfl (xst ttOk rfl rfl (xs rfl rfl (nl (et (ev_ret (ret_pureN ttOk rfl rfl ?_)))))))))))
     first
     | (rw [sy_no (by assumption)]; simp [RpLe, L2, RcLe, zeroL, zeroD, zeroT, noHead]; done)
     | (rw [sy_more (by assumption) (by assumption)]; simp [RpLe, L2, RcLe, noHead]; done)
     | (rw [sy_less (by assumption) (by assumption)]; simp [RpLe, L2, RcLe, noHead]; done)

end Go.Proofs.YtphaggopgdbojaaGreat
