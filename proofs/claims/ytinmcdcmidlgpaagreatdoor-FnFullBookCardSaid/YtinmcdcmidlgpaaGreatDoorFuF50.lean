/- Walks of functions of the program, printed by a program of the prover. -/
import Derived.Test.YtinmcdcmidlgpaaGreatDoorFuF43
import Derived.Test.YtinmcdcmidlgpaaGreatDoorFuVZ
import Derived.Test.YtinmcdcmidlgpaaGreatDoorFuVR
import Derived.Test.YtinmcdcmidlgpaaGreatDoorFuVF
namespace Go.Proofs.YtinmcdcmidlgpaaGreatDoor
open Go.ChangeShapes Go.WideShapes Go.ChangeAt Go.RowKit
set_option linter.unusedVariables false
set_option linter.unusedSimpArgs false
set_option maxHeartbeats 1000000
set_option maxRecDepth 100000
attribute [local irreducible] EvL Ev EvE Quiet Eff Pure RDk RDb RDo
theorem getD_set {α : Type} {l : List α} {i j : Nat} {x d : α} (hi : i < l.length) : (l.set i x).getD j d = if i = j then x else l.getD j d := by
 simp only [List.getD_eq_getElem?_getD, List.getElem?_set]
 split
 ·rename_i e
  subst e
  simp [hi]
 ·rfl
theorem rowOk_of {l : List Int} (h1 : l.length ≤ 48) (h2 : NumsOk l) : rowOk l = true := by
 simp only [rowOk, Bool.and_eq_true, decide_eq_true_eq, List.all_eq_true]
 exact ⟨h1, h2⟩
theorem rowOk_torn {a b : List Int} (ha : rowOk a = true) (hb : rowOk b = true) : rowOk (tornF a b) = true := by
 obtain ⟨h1, h2⟩ := rowOk_nums ha
 obtain ⟨h3, h4⟩ := rowOk_nums hb
 refine rowOk_of ?_ fun x hx => ?_
 ·simp only [tornF, List.length_append, List.length_take, List.length_drop]; omega
 ·rcases List.mem_append.1 hx with hx | hx
  ·exact h2 x (List.mem_of_mem_take hx)
  ·exact h4 x (List.mem_of_mem_drop hx)
theorem rowOk_nil : rowOk [] = true := by decide
theorem wait_ok {d : Disk} (h : diskOk d = true) {k : Nat} (hk : k < d.wait.length) : hasAt d d.wait[k].1 = true ∧ rowOk d.wait[k].2 = true := by
 have := (diskOk_sizes h).2.2.2.2 _ (List.getElem_mem hk)
 simp only [writeOk, Bool.and_eq_true] at this
 exact this
theorem fallUp_ok {d : Disk} (h : diskOk d = true) (F : List Int) (all : Bool) : ∀ k, k ≤ d.wait.length → ∀ r ∈ fallUp d F all k, rowOk r = true
 | 0, _ => fun r hr => (diskOk_sizes h).2.2.2.1 r hr
 | k + 1, hk => fun r hr => by
  have ih := fallUp_ok h F all k om
  have hw := wait_ok h (k := k) om
  rw [show fallUp d F all (k + 1) = fallStep (fateAt F k) all (fallUp d F all k) d.wait[k] by simp only [fallUp]; rw [getD_lenW (show k < d.wait.length by omega)]] at hr
  have key : ∀ z : List Int, rowOk z = true → r ∈ (fallUp d F all k).set d.wait[k].1.toNat z → rowOk r = true := fun z hz hm => by
   rcases List.mem_or_eq_of_mem_set hm with h9 | h9
   ·exact ih r h9
   ·rw [h9]; exact hz
  simp only [fallStep] at hr
  split at hr
  ·exact key _ hw.2 hr
  ·split at hr
   ·refine key _ (rowOk_torn hw.2 ?_) hr
    rw [List.getD_eq_getElem?_getD]
    cases h9 : (fallUp d F all k)[d.wait[k].1.toNat]? with
    | none => exact rowOk_nil
    | some r9 => exact ih r9 (List.mem_of_getElem? h9)
   ·exact ih r hr
theorem fall_ok {d : Disk} (h : diskOk d = true) (F : List Int) (all : Bool) : diskOk (fallF d F all) = true := by
 rw [fall_yes h]
 have h1 := diskOk_sizes h
 have h2 := fallUp_len d F all d.wait.length
 simp only [diskOk, Bool.and_eq_true, decide_eq_true_eq, List.all_eq_true, List.length_nil]
 exact ⟨by omega, by omega, by omega, fun r hr => fallUp_ok h F all _ (Nat.le_refl _) r hr, by simp⟩
theorem fall_len {d : Disk} (h : diskOk d = true) (F : List Int) (all : Bool) : (fallF d F all).kept.length = d.kept.length := by
 rw [fall_yes h]; exact fallUp_len d F all _
theorem lastW_snoc {l : List (Int × List Int)} {y : Int × List Int} {x : Int} : lastW (l ++ [y]) x = if y.1 = x then some y.2 else lastW l x := by simp [lastW, List.foldl_append]
theorem sync_at {d : Disk} (h : diskOk d = true) {x : Int} (hx : 0 ≤ x) : ∀ k, k ≤ d.wait.length → (fallUp d [] true k).getD x.toNat [] = (lastW (d.wait.take k) x).getD (d.kept.getD x.toNat [])
 | 0, _ => by simp [fallUp, lastW]
 | k + 1, hk => by
  have ih := sync_at h hx k om
  have hw := wait_at h (k := k) om
  have hl := fallUp_len d [] true k
  rw [show fallUp d [] true (k + 1) = (fallUp d [] true k).set d.wait[k].1.toNat d.wait[k].2 by simp only [fallUp]; rw [getD_lenW (show k < d.wait.length by omega)]; simp [fallStep], getD_set om, List.take_succ_eq_append_getElem om, lastW_snoc]
  by_cases e : d.wait[k].1 = x
  ·rw [if_pos e, if_pos (by rw [e])]; rfl
  ·rw [if_neg e, if_neg om, ih]
theorem twoOk_iff {t : Two} : twoOk t = true ↔ diskOk t.a = true ∧ diskOk t.b = true ∧ t.a.kept.length = t.b.kept.length := by simp [twoOk]
theorem bsync_ok {t : Two} (h : twoOk t = true) : twoOk (bothSyncF t) = true := by
 obtain ⟨h1, h2, h3⟩ := twoOk_iff.1 h
 rw [bsync_yes h]
 exact twoOk_iff.2 ⟨fall_ok h1 _ _, fall_ok h2 _ _, by rw [fall_len h1, fall_len h2, h3]⟩
theorem keptOk_iff {t : Two} : keptOk t = true ↔ twoOk t = true ∧ t.a.kept.length = 22 := by simp [keptOk]
theorem kept_sync {t : Two} : keptOk (bothSyncF t) = keptOk t := by
 cases h : twoOk t
 ·rw [bsync_no h]
  unfold keptOk
  rw [h]
  rfl
 ·unfold keptOk
  rw [h, bsync_ok h, bsync_yes h]
  simp only [fall_len (twoOk_both h).1]
theorem log_all {n : LogN} (h : logOkF n = true) : keptOk n.two = true ∧ headOk n.head = true ∧ bookOk n.book = true ∧ n.book.base = n.head.base ∧ n.book.time = n.head.time := by
 simp only [logOkF, frontF, Bool.and_eq_true, decide_eq_true_eq] at h
 exact ⟨h.1.1, h.1.2.1, h.1.2.2.1, h.1.2.2.2.1, h.1.2.2.2.2⟩
theorem log_parts {n : LogN} (h : logOkF n = true) : frontF n = true ∧ midF n = true ∧ owesF n = true ∧ (if n.more then inB n.next.base (n.head.base + 1) n.durable && eqHd n.next (nextF n n.next.base) else eqHd n.next noHead) = true := by
 simp only [logOkF, Bool.and_eq_true] at h
 exact h
theorem log_seen {n : LogN} (h : logOkF n = true) : overL n.head.seen n.book.entries = some n.seen ∧ SOk n.head.seen ∧ SOk n.seen := by
 obtain ⟨_, hh, hb, _⟩ := log_all h
 have hm := (log_parts h).2.1
 simp only [midF, Bool.and_eq_true] at hm
 obtain ⟨c, hc⟩ := so_some hm.1
 have hs := sok_of (head_bd hh).2.2.2.2
 have e := so4 (of_sok hs) (by have := book_bd hb; omega) hc
 rw [e] at hm
 have := marks_eq hm.2.1
 simp only at this
 rw [← this]
 exact ⟨hc, hs, over_sok hs hc⟩
theorem eqHd_eq {a b : Head} (h : eqHd a b = true) : a = b := by
 simp only [eqHd, Bool.and_eq_true, decide_eq_true_eq] at h
 obtain ⟨h1, h2, h3, h4⟩ := h
 have := marks_eq h4
 cases a
 cases b
 simp_all
theorem log_next {n : LogN} (h : logOkF n = true) (hm : n.more = true) : headOk n.next = true ∧ n.head.base < n.next.base ∧ n.next.base ≤ n.durable ∧ n.next = nextF n n.next.base := by
 obtain ⟨h1, h2, h3, h4⟩ := log_parts h
 have h5 := next_same h1 h2 hm
 rw [if_pos hm] at h4
 rw [h4] at h5
 have h6 := h5.symm
 simp only [nextOkF, hm, if_true, Bool.and_eq_true] at h6
 simp only [Bool.and_eq_true] at h4
 have h7 := inB_iff.1 h4.1
 exact ⟨h6.1, by omega, by omega, eqHd_eq h4.2⟩
theorem log_less {n : LogN} (h : logOkF n = true) (hm : n.more = false) : n.next = noHead := by
 have h4 := (log_parts h).2.2.2
 rw [hm] at h4
 exact eqHd_eq h4
theorem acks_eq {l m : List Ack} (h : eqN Ack.nums l m = true) : l = m := by
 have h1 : l.map Ack.nums = m.map Ack.nums := of_decide_eq_true h
 have key : ∀ {l m : List Ack}, l.map Ack.nums = m.map Ack.nums → l = m := by
  intro l
  induction l with
  | nil => intro m h; cases m with
   | nil => rfl
   | cons _ _ => simp at h
  | cons a l ih =>
   intro m h
   cases m with
   | nil => simp at h
   | cons b m =>
    simp only [List.map_cons, List.cons.injEq] at h
    rw [Ack.ext' h.1, ih h.2]
 exact key h1
theorem log_owe {n : LogN} (h : logOkF n = true) : n.owe = (partF n.book (n.durable + 1) 2000).map ackF := acks_eq (log_parts h).2.2.1
theorem log_small {n : LogN} (h : logOkF n = true) : n.head.seen.length ≤ 4 ∧ n.next.seen.length ≤ 4 ∧ n.book.entries.length ≤ 20 ∧ n.seen.length ≤ 4 ∧ n.owe.length ≤ 20 := by
 obtain ⟨hk, hh, hb, _⟩ := log_all h
 have h1 := book_bd hb
 refine ⟨seen_len (head_bd hh).2.2.2.2, ?_, h1.2.2.1, seen_len (of_sok (log_seen h).2.2), ?_⟩
 ·cases hm : n.more
  ·rw [log_less h hm]; decide
  ·exact seen_len (head_bd (log_next h hm).1).2.2.2.2
 ·rw [log_owe h, List.length_map]
  have : (partF n.book (n.durable + 1) 2000).length ≤ n.book.entries.length := List.length_filter_le _ _
  omega
theorem log_two {n : LogN} (h : logOkF n = true) : twoOk n.two = true := (keptOk_iff.1 (log_all h).1).1
theorem flat_acks (l : List Ack) : ∀ cs ∈ l.map ackC, ∀ c ∈ cs, ∃ x, c = .v x := by
 intro cs h c hc
 obtain ⟨x, _, rfl⟩ := List.mem_map.1 h
 simp only [List.mem_cons, List.not_mem_nil, or_false] at hc
 rcases hc with rfl | rfl | rfl | rfl <;> exact ⟨_, rfl⟩
theorem c_copyHead (h : Head) (hs : h.seen.length ≤ 1048576) : Pure Tryz.prog 140 [many (headC h)] [many' (headR h)] := by
 refine pure_intro (N := 13) Tryz.func140 rfl rfl rfl rfl (fun H w => ?_)
 refine sq (rg (evl_e (e_box rfl rfl rfl rfl) (evl_e (e_alloc ttOk rfl rfl rfl rfl) (nl (et (sq (ev_drawq [10] mo (rk0 0 rfl (q_fieldAddr ttOk rfl) rfl (rk0 1 rfl (q_load ttOk rfl) rfl (rk0 2 rfl (q_fieldAddr ttOk rfl) rfl (rk0 3 rfl (q_load ttOk rfl) rfl (rk0 4 rfl (q_fieldAddr ttOk rfl) rfl (rk0 5 rfl (q_load ttOk rfl) rfl (rk0 6 rfl (q_fieldAddr ttOk rfl) rfl (rk0 7 rfl (q_load ttOk rfl) rfl (rdk_one 8 kr (rdo_call (nm := 11) rfl trivial (cf rfl) (c_copySeen h.seen hs) (rs_of rfl) rfl rfl rfl (rk0 9 rfl (q_build ttOk rfl) rfl (rdk_one 10 kr (rdo_brk rfl rfl trivial (e_store ttOk rfl) (rdb_endq kr (et (ev_ret (ret_pure' ttOk rfl rfl ?_))))))))))))))))))))))))
 rfl
theorem c_copyLog (n : LogN) (h : logOkF n = true) : Pure Tryz.prog 62 [many (logC n)] [many' (logR (n))] := by
 refine pure_intro (N := 27) Tryz.func62 rfl rfl rfl rfl (fun H w => ?_)
 have hsm := log_small h
 refine sq (rg (evl_e (e_box rfl rfl rfl rfl) (evl_e (e_alloc ttOk rfl rfl rfl rfl) (nl (et (sq (ev_frz (cs := logC n) 1 rfl rfl rfl (fun HF1_0 hHF1_0 => ?_))))))))
 refine' ev_drawhJ mo ?hdr1 ?kdr1
 case hdr1 =>
  refine rdh_take 0 rfl kr trivial (QuietW.h (qw_fieldAddr ttOk rfl)) rfl (rdh_take 1 rfl kr trivial (q_loadH ttOk rfl rfl) rfl (rdh_take 3 rfl kr trivial (QuietW.h (qw_fieldAddr ttOk rfl)) rfl (rdh_take 4 rfl kr trivial (q_loadH ttOk rfl rfl) rfl (rdh_take 6 rfl kr trivial (QuietW.h (qw_fieldAddr ttOk rfl)) rfl (rdh_take 7 rfl kr trivial (q_loadH ttOk rfl rfl) rfl (rdh_take 9 rfl kr trivial (QuietW.h (qw_fieldAddr ttOk rfl)) rfl (rdh_take 10 rfl kr trivial (q_loadH ttOk rfl rfl) rfl (rdh_take 11 rfl kr trivial (QuietW.h (qw_fieldAddr ttOk rfl)) rfl (rdh_take 12 rfl kr trivial (q_loadH ttOk rfl rfl) rfl (rdh_take 14 rfl kr trivial (QuietW.h (qw_fieldAddr ttOk rfl)) rfl (rdh_take 15 rfl kr trivial (q_loadH ttOk rfl rfl) rfl (rdh_take 17 rfl kr trivial (QuietW.h (qw_fieldAddr ttOk rfl)) rfl (rdh_take 18 rfl kr trivial (q_loadH ttOk rfl rfl) rfl (rdh_take 20 rfl kr trivial (QuietW.h (qw_fieldAddr ttOk rfl)) rfl (rdh_take 21 rfl kr trivial (q_loadH ttOk rfl rfl) rfl (rdh_2 2 19 kr ?_ ?_))))))))))))))))
  ·refine rdho_call (nm := 5) rfl trivial (cf rfl) (c_copyTwo n.two (log_two h)) (rs_of rfl) rfl rfl rfl (rdh_2 5 19 kr ?_ ?_)
   ·first | refine rdho_call (nm := 8) rfl trivial (cf rfl) (c_copyHead n.head om) (rs_of rfl) rfl rfl rfl ?_ | refine rdho_call (nm := 8) rfl trivial (cf rfl) (c_copyHead n.next om) (rs_of rfl) rfl rfl rfl ?_
    refine rdh_2 8 19 kr ?_ ?_
    ·first | refine rdho_call (nm := 11) rfl trivial (cf rfl) (c_copyHead n.head om) (rs_of rfl) rfl rfl rfl ?_ | refine rdho_call (nm := 11) rfl trivial (cf rfl) (c_copyHead n.next om) (rs_of rfl) rfl rfl rfl ?_
     refine rdh_2 13 19 kr ?_ ?_
     ·refine rdho_call (nm := 16) rfl trivial (cf rfl) (c_copyBook n.book om) (rs_of rfl) rfl rfl rfl (rdh_2 16 19 kr ?_ ?_)
      ·refine rdho_call (nm := 19) rfl trivial (cf rfl) (c_copySeen n.seen om) (rs_of rfl) rfl rfl rfl (rdh_1 19 kr (rdho_eff rfl trivial (e_lit ttOk rfl rfl rfl) (rdh_1 22 kr (rdho_eff rfl trivial (e_app_c ttOk rfl rfl rfl rfl rfl (flat_acks _) (by simp; omega) rfl rfl) (rdh_1 23 kr (rdho_q rfl trivial (q_build ttOk rfl) rfl (rdh_1 24 kr (rdho_eff rfl trivial (e_store ttOk rfl) ?_))))))))
       exact rdh_fin kr
      ·refine rdho_eff rfl trivial (e_lit ttOk rfl rfl rfl) (rdh_1 16 kr (rdho_call (nm := 19) rfl trivial (cf rfl) (c_copySeen n.seen om) (rs_of rfl) rfl rfl rfl (rdh_1 22 kr (rdho_eff rfl trivial (e_app_c ttOk rfl rfl rfl rfl rfl (flat_acks _) (by simp; omega) rfl rfl) (rdh_1 23 kr (rdho_q rfl trivial (q_build ttOk rfl) rfl (rdh_1 24 kr (rdho_eff rfl trivial (e_store ttOk rfl) ?_))))))))
       exact rdh_le [] kr lei
     ·refine rdho_eff rfl trivial (e_lit ttOk rfl rfl rfl) (rdh_1 13 kr (rdho_call (nm := 16) rfl trivial (cf rfl) (c_copyBook n.book om) (rs_of rfl) rfl rfl rfl (rdh_1 16 kr (rdho_call (nm := 19) rfl trivial (cf rfl) (c_copySeen n.seen om) (rs_of rfl) rfl rfl rfl (rdh_1 22 kr (rdho_eff rfl trivial (e_app_c ttOk rfl rfl rfl rfl rfl (flat_acks _) (by simp; omega) rfl rfl) (rdh_1 23 kr (rdho_q rfl trivial (q_build ttOk rfl) rfl (rdh_1 24 kr (rdho_eff rfl trivial (e_store ttOk rfl) ?_))))))))))
      exact rdh_le [] kr lei
    ·refine rdho_eff rfl trivial (e_lit ttOk rfl rfl rfl) (rdh_1 8 kr ?_)
     first | refine rdho_call (nm := 11) rfl trivial (cf rfl) (c_copyHead n.head om) (rs_of rfl) rfl rfl rfl ?_ | refine rdho_call (nm := 11) rfl trivial (cf rfl) (c_copyHead n.next om) (rs_of rfl) rfl rfl rfl ?_
     refine rdh_1 13 kr (rdho_call (nm := 16) rfl trivial (cf rfl) (c_copyBook n.book om) (rs_of rfl) rfl rfl rfl (rdh_1 16 kr (rdho_call (nm := 19) rfl trivial (cf rfl) (c_copySeen n.seen om) (rs_of rfl) rfl rfl rfl (rdh_1 22 kr (rdho_eff rfl trivial (e_app_c ttOk rfl rfl rfl rfl rfl (flat_acks _) (by simp; omega) rfl rfl) (rdh_1 23 kr (rdho_q rfl trivial (q_build ttOk rfl) rfl (rdh_1 24 kr (rdho_eff rfl trivial (e_store ttOk rfl) ?_)))))))))
     exact rdh_le [] kr lei
   ·refine rdho_eff rfl trivial (e_lit ttOk rfl rfl rfl) (rdh_1 5 kr ?_)
    first | refine rdho_call (nm := 8) rfl trivial (cf rfl) (c_copyHead n.head om) (rs_of rfl) rfl rfl rfl ?_ | refine rdho_call (nm := 8) rfl trivial (cf rfl) (c_copyHead n.next om) (rs_of rfl) rfl rfl rfl ?_
    refine rdh_1 8 kr ?_
    first | refine rdho_call (nm := 11) rfl trivial (cf rfl) (c_copyHead n.head om) (rs_of rfl) rfl rfl rfl ?_ | refine rdho_call (nm := 11) rfl trivial (cf rfl) (c_copyHead n.next om) (rs_of rfl) rfl rfl rfl ?_
    refine rdh_1 13 kr (rdho_call (nm := 16) rfl trivial (cf rfl) (c_copyBook n.book om) (rs_of rfl) rfl rfl rfl (rdh_1 16 kr (rdho_call (nm := 19) rfl trivial (cf rfl) (c_copySeen n.seen om) (rs_of rfl) rfl rfl rfl (rdh_1 22 kr (rdho_eff rfl trivial (e_app_c ttOk rfl rfl rfl rfl rfl (flat_acks _) (by simp; omega) rfl rfl) (rdh_1 23 kr (rdho_q rfl trivial (q_build ttOk rfl) rfl (rdh_1 24 kr (rdho_eff rfl trivial (e_store ttOk rfl) ?_)))))))))
    exact rdh_le [] kr lei
  ·refine rdho_eff rfl trivial (e_lit ttOk rfl rfl rfl) (rdh_1 2 kr (rdho_call (nm := 5) rfl trivial (cf rfl) (c_copyTwo n.two (log_two h)) (rs_of rfl) rfl rfl rfl (rdh_1 5 kr ?_)))
   first | refine rdho_call (nm := 8) rfl trivial (cf rfl) (c_copyHead n.head om) (rs_of rfl) rfl rfl rfl ?_ | refine rdho_call (nm := 8) rfl trivial (cf rfl) (c_copyHead n.next om) (rs_of rfl) rfl rfl rfl ?_
   refine rdh_1 8 kr ?_
   first | refine rdho_call (nm := 11) rfl trivial (cf rfl) (c_copyHead n.head om) (rs_of rfl) rfl rfl rfl ?_ | refine rdho_call (nm := 11) rfl trivial (cf rfl) (c_copyHead n.next om) (rs_of rfl) rfl rfl rfl ?_
   refine rdh_1 13 kr (rdho_call (nm := 16) rfl trivial (cf rfl) (c_copyBook n.book om) (rs_of rfl) rfl rfl rfl (rdh_1 16 kr (rdho_call (nm := 19) rfl trivial (cf rfl) (c_copySeen n.seen om) (rs_of rfl) rfl rfl rfl (rdh_1 22 kr (rdho_eff rfl trivial (e_app_c ttOk rfl rfl rfl rfl rfl (flat_acks _) (by simp; omega) rfl rfl) (rdh_1 23 kr (rdho_q rfl trivial (q_build ttOk rfl) rfl (rdh_1 24 kr (rdho_eff rfl trivial (e_store ttOk rfl) ?_)))))))))
   exact rdh_le [] kr lei
 refine et (ev_ret (retH rfl (ret_pure' ttOk rfl rfl ?_)))
 rfl
def trimF (b : Book) (x : Int) : Book × Bool := if bookOk b then if inB x b.base (lastB b) then (⟨x, timeAtF b x, b.entries.drop (x - b.base).toNat⟩, true) else (b, false) else (⟨0, 0, []⟩, false)
theorem tr_no1 {b : Book} {x : Int} (h : bookOk b = false) : trimF b x = (⟨0, 0, []⟩, false) := by simp [trimF, h]
theorem tr_no2 {b : Book} {x : Int} (h : bookOk b = true) (h2 : inB x b.base (lastB b) = false) : trimF b x = (b, false) := by simp [trimF, h, h2]
theorem tr_yes {b : Book} {x : Int} (h : bookOk b = true) (h2 : inB x b.base (lastB b) = true) : trimF b x = (⟨x, timeAtF b x, b.entries.drop (x - b.base).toNat⟩, true) := by simp [trimF, h, h2]
theorem tr_more {b : Book} {x : Int} {m : Nat} (h : bookOk b = true) (h2 : inB x b.base (lastB b) = true) (h3 : x - b.base - 1 = (m : Int)) (hm : m < b.entries.length) : trimF b x = (⟨x, b.entries[m].time, b.entries.drop (x - b.base).toNat⟩, true) := by
 rw [tr_yes h h2]
 unfold timeAtF
 rw [if_neg om, atB_eq h3 hm]
theorem tr_same {b : Book} {x : Int} (h : bookOk b = true) (h2 : inB x b.base (lastB b) = true) (h3 : ¬ x > b.base) : trimF b x = (b, true) := by
 have h4 := inB_iff.1 h2
 have : x = b.base := by omega
 subst this
 rw [tr_yes h h2]
 simp [timeAtF]
def syncedF (n : LogN) : LogN × List Ack := if logOkF n then (if n.more then ⟨bothSyncF n.two, n.next, noHead, false, (trimF n.book n.next.base).1, n.seen, lastB n.book, []⟩ else ⟨bothSyncF n.two, n.head, n.next, false, n.book, n.seen, lastB n.book, []⟩, n.owe) else (zeroL, [])
theorem sy_no {n : LogN} (h : logOkF n = false) : syncedF n = (zeroL, []) := by simp [syncedF, h]
theorem sy_more {n : LogN} (h : logOkF n = true) (h2 : n.more = true) : syncedF n = (⟨bothSyncF n.two, n.next, noHead, false, (trimF n.book n.next.base).1, n.seen, lastB n.book, []⟩, n.owe) := by simp [syncedF, h, h2]
theorem sy_less {n : LogN} (h : logOkF n = true) (h2 : n.more = false) : syncedF n = (⟨bothSyncF n.two, n.head, n.next, n.more, n.book, n.seen, lastB n.book, []⟩, n.owe) := by simp [syncedF, h, h2]
def keptHeadF (t : Two) (h : Head) : Two × Bool := if keptOk t then if headOk h then bothWroteF t (h.num % 2) (headRowF h) else (t, false) else (zeroT, false)
def trimAskedF (n : LogN) (x : Int) : LogN := if logOkF n then if n.more || !inB x (n.head.base + 1) n.durable then n else if (keptHeadF n.two (nextF n x)).2 then ⟨(keptHeadF n.two (nextF n x)).1, n.head, nextF n x, true, n.book, n.seen, n.durable, n.owe⟩ else n else zeroL
theorem c_TrimmedTo' (b : Book) (x : Int) : Pure Tryz.prog 85 [many (bookC b), one (iC x)] [many' (bookR (trimF b x).1), one' (RC.v (.bool (trimF b x).2))] := by
 refine pure_intro (N := 49) Tryz.func85 rfl rfl rfl rfl (fun H w => ?_)
 refine sq (rg (evl_e (e_box rfl rfl rfl rfl) (evl_e (e_alloc ttOk rfl rfl rfl rfl) (xs rfl rfl (nl (et (sq (sq (rg (xl ttOk rfl rfl (evl_call (nm := 8) (cf rfl) (c_BookOk' b) (rs_of rfl) rfl rfl rfl (xo (q_not rfl) rfl (nl (et (ev_cond_n rfl (fun h1 => ?_) (fun h1 => ?_))))))))))))))))
 ·try have d1 := of_decide_eq_false h1
  refine sq (rg (xo (q_build ttOk rfl) rfl (xst ttOk rfl rfl (xs rfl rfl (nl (et (ev_ret (evr_then (ret_pureN ttOk rfl rfl ?_)))))))))
  first
  | (rw [tr_no1 ‹_›]; simp [RpLe, L2, RcLe]; done)
  | (rw [tr_no2 ‹_› ‹_›]; simp [RpLe, L2, RcLe]; done)
  | (rw [tr_more ‹_› ‹_› hm1 hm2]; simp [RpLe, L2, RcLe]; done)
  | (rw [tr_same ‹_› ‹_› ‹_›]; simp [RpLe, L2, RcLe]; done)
 ·try have d1 := of_decide_eq_true h1
  have hbd := book_bd h1
  refine ev_skip (et (sq (rg (xl ttOk rfl rfl (evl_call (nm := 12) (cf rfl) (c_copyBook b om) (rs_of rfl) rfl rfl rfl (evl_e (e_alloc ttOk rfl rfl rfl rfl) (xst ttOk rfl rfl (nl (et (sq (sq (ev_drawq [] mo (rk0 0 rfl (q_move rfl) rfl (rk0 1 rfl (q_fieldAddr ttOk rfl) rfl (rk0 2 rfl (q_load ttOk rfl) rfl (rk0 3 rfl (q_load ttOk rfl) rfl (rdk_one 4 kr (rdo_call (nm := 17) rfl trivial (cf rfl) (c_lastOf b ‹_›) (rs_of rfl) rfl rfl rfl (rdk_one 5 kr (rdo_call (nm := 18) rfl trivial (cf rfl) (c_between _ _ _) (rs_of rfl) rfl rfl rfl (rk0 6 rfl (q_not rfl) rfl (rdk_endq kr (et (ev_cond_n rfl (fun h2 => ?_) (fun h2 => ?_)))))))))))))))))))))))))
  ·try have d2 := of_decide_eq_false h2
   refine sq (rg (xl ttOk rfl rfl (xst ttOk rfl rfl (xs rfl rfl (nl (et (ev_ret (evr_then (ret_pureN ttOk rfl rfl ?_)))))))))
   first
   | (rw [tr_no1 ‹_›]; simp [RpLe, L2, RcLe]; done)
   | (rw [tr_no2 ‹_› ‹_›]; simp [RpLe, L2, RcLe]; done)
   | (rw [tr_more ‹_› ‹_› hm1 hm2]; simp [RpLe, L2, RcLe]; done)
   | (rw [tr_same ‹_› ‹_› ‹_›]; simp [RpLe, L2, RcLe]; done)
  ·try have d2 := of_decide_eq_true h2
   refine ev_skip (et (sq (sq ?_)))
   have hrg := inB_iff.1 (show inB x b.base (lastB b) = true by assumption)
   have hla : lastB b = b.base + b.entries.length := rfl
   refine rg (xm rfl rfl (xf ttOk rfl rfl (xl ttOk rfl rfl (xb ttOk rfl rfl (nl (et (ev_cond rfl (fun h3 => ?_) (fun h3 => ?_))))))))
   ·try have d3 := of_decide_eq_true h3
    refine sq ?_
    obtain ⟨m, hm1, hm2⟩ := at_get (b := b) (x := x) om hrg.2
    refine rg (xf ttOk rfl rfl (xl ttOk rfl rfl (xm rfl rfl (xf ttOk rfl rfl (xl ttOk rfl rfl (xa rfl rfl rfl om rfl (xa rfl rfl rfl om rfl (xo (q_ix_map (m := m) ttOk rfl rfl rfl om om) rfl (xf ttOk rfl rfl (xl ttOk rfl rfl (xf ttOk rfl rfl (xst ttOk rfl rfl (nl (et (sq (rg (xm rfl rfl (xf ttOk rfl rfl (xst ttOk rfl rfl (nl (et (rg (evl_e (e_lit ttOk rfl rfl rfl) (xf ttOk rfl rfl (xl ttOk rfl rfl (xm rfl rfl (xf ttOk rfl rfl (xl ttOk rfl rfl (xa rfl rfl rfl om rfl (xo (q_sl_from_map (k := (x - b.base).toNat) ttOk rfl rfl rfl om om) rfl (evl_e (e_app_c ttOk rfl rfl rfl rfl rfl (flat_entries _) (by simp; omega) rfl rfl) (xf ttOk rfl rfl (xst ttOk rfl rfl (nl (et (sq (rg (xl ttOk rfl rfl (xst ttOk rfl rfl (xs rfl rfl (nl (et (ev_ret (ret_pureN ttOk rfl rfl ?_))))))))))))))))))))))))))))))))))))))))))))
    first
    | (rw [tr_no1 ‹_›]; simp [RpLe, L2, RcLe]; done)
    | (rw [tr_no2 ‹_› ‹_›]; simp [RpLe, L2, RcLe]; done)
    | (rw [tr_more ‹_› ‹_› hm1 hm2]; simp [RpLe, L2, RcLe]; done)
    | (rw [tr_same ‹_› ‹_› ‹_›]; simp [RpLe, L2, RcLe]; done)
   ·try have d3 := of_decide_eq_false h3
    refine ev_skip (et (sq (rg (xl ttOk rfl rfl (xst ttOk rfl rfl (xs rfl rfl (nl (et (ev_ret (ret_pureN ttOk rfl rfl ?_))))))))))
    first
    | (rw [tr_no1 ‹_›]; simp [RpLe, L2, RcLe]; done)
    | (rw [tr_no2 ‹_› ‹_›]; simp [RpLe, L2, RcLe]; done)
    | (rw [tr_more ‹_› ‹_› hm1 hm2]; simp [RpLe, L2, RcLe]; done)
    | (rw [tr_same ‹_› ‹_› ‹_›]; simp [RpLe, L2, RcLe]; done)
theorem c_SyncedLog' (n : LogN) : Pure Tryz.prog 28 [many (logC n)] [many' (logR ((syncedF n).1)), one' (acksR (syncedF n).2)] := by
 refine pure_intro (N := 43) Tryz.func28 rfl rfl rfl rfl (fun H w => ?_)
 refine sq (rg (evl_e (e_box rfl rfl rfl rfl) (evl_e (e_alloc ttOk rfl rfl rfl rfl) (xs rfl rfl (nl (et (sq (sq (rg (xl ttOk rfl rfl (evl_call (nm := 7) (cf rfl) (c_LogOk2 n) (rs_of rfl) rfl rfl rfl (xo (q_not rfl) rfl (nl (et (ev_cond_n rfl (fun h1 => ?_) (fun h1 => ?_))))))))))))))))
 ·refine sq (rg (xo (q_build ttOk rfl) rfl (xst ttOk rfl rfl (xs rfl rfl (nl (et (ev_ret (evr_then (ret_pureN ttOk rfl rfl ?_)))))))))
  first
  | (rw [sy_no ‹_›]; simp [RpLe, L2, RcLe, zeroL, zeroD, zeroT, noHead]; done)
  | (rw [sy_more ‹_› ‹_›]; simp [RpLe, L2, RcLe, noHead]; done)
  | (rw [sy_less ‹_› ‹_›]; simp [RpLe, L2, RcLe, noHead]; done)
 ·obtain ⟨hk, hh, hb, he1, he2⟩ := log_all h1
  have hsm := log_small h1
  have hbd := book_bd hb
  refine ev_skip (et (sq (rg (xl ttOk rfl rfl (evl_call (nm := 11) (cf rfl) (c_copyLog n ‹_›) (rs_of rfl) rfl rfl rfl (evl_e (e_alloc ttOk rfl rfl rfl rfl) (xst ttOk rfl rfl (nl (et (sq (rg (xf ttOk rfl rfl (xl ttOk rfl rfl (xs rfl rfl (nl (et (sq (ev_drawq [7, 9, 11] mo (rk0 0 rfl (q_fieldAddr ttOk rfl) rfl (rk0 1 rfl (q_load ttOk rfl) rfl (rk0 3 rfl (q_fieldAddr ttOk rfl) rfl (rk0 4 rfl (q_load ttOk rfl) rfl (rdk_one 2 kr (rdo_call (nm := 16) rfl trivial (cf rfl) (c_BothSynced' n.two) (rs_of rfl) rfl rfl rfl (rk0 6 rfl (q_fieldAddr ttOk rfl) rfl (rdk_one 5 kr (rdo_call (nm := 19) rfl trivial (cf rfl) (c_lastOf n.book hb) (rs_of rfl) rfl rfl rfl (rdk_one 7 kr (rdo_brk rfl rfl trivial (e_store ttOk rfl) (rdb_q 8 rfl kr trivial (q_fieldAddr ttOk rfl) rfl (rdb_eff 9 rfl kr trivial (e_store ttOk rfl) (rdb_q 10 rfl kr trivial (q_fieldAddr ttOk rfl) rfl (rdb_eff 11 rfl kr trivial (e_store ttOk rfl) (rdb_endq kr (et (sq (sq (rg (xf ttOk rfl rfl (xl ttOk rfl rfl (nl (et (ev_cond rfl (fun h2 => ?_) (fun h2 => ?_))))))))))))))))))))))))))))))))))))))))))))
  ·refine sq (rg (xf ttOk rfl rfl (xl ttOk rfl rfl (xf ttOk rfl rfl (xf ttOk rfl rfl (xl ttOk rfl rfl (evl_call (nm := 31) (cf rfl) (c_TrimmedTo' n.book n.next.base) (rs_of rfl) rfl rfl rfl (xm rfl rfl (xo (q_ext rfl) rfl (xo (q_ext rfl) rfl (xf ttOk rfl rfl (xst ttOk rfl rfl (nl (et (rg (xf ttOk rfl rfl (xl ttOk rfl rfl (xo (q_build ttOk rfl) rfl (xf ttOk rfl rfl (xst ttOk rfl rfl (xf ttOk rfl rfl (xst ttOk rfl rfl (xf ttOk rfl rfl (xst ttOk rfl rfl (nl (et (sq (rg (xl ttOk rfl rfl (xm rfl rfl (xst ttOk rfl rfl (xs rfl rfl (nl (et (ev_ret (ret_pureN ttOk rfl rfl ?_))))))))))))))))))))))))))))))))))))
   first
   | (rw [sy_no ‹_›]; simp [RpLe, L2, RcLe, zeroL, zeroD, zeroT, noHead]; done)
   | (rw [sy_more ‹_› ‹_›]; simp [RpLe, L2, RcLe, noHead]; done)
   | (rw [sy_less ‹_› ‹_›]; simp [RpLe, L2, RcLe, noHead]; done)
  ·refine ev_skip (et (sq (rg (xl ttOk rfl rfl (xm rfl rfl (xst ttOk rfl rfl (xs rfl rfl (nl (et (ev_ret (ret_pureN ttOk rfl rfl ?_)))))))))))
   first
   | (rw [sy_no ‹_›]; simp [RpLe, L2, RcLe, zeroL, zeroD, zeroT, noHead]; done)
   | (rw [sy_more ‹_› ‹_›]; simp [RpLe, L2, RcLe, noHead]; done)
   | (rw [sy_less ‹_› ‹_›]; simp [RpLe, L2, RcLe, noHead]; done)
theorem kh_yes {t : Two} {h : Head} (hk : keptOk t = true) (hh : headOk h = true) : keptHeadF t h = bothWroteF t (h.num % 2) (headRowF h) := by simp [keptHeadF, hk, hh]
theorem headRow_ne {h : Head} (hh : headOk h = true) : headRowF h ≠ [] := by
 unfold headRowF
 rw [hh]
 simp
def keptRowF (t : Two) (x : Int) (row : List Int) : Two × Bool := if keptOk t then bothWroteF t x row else (zeroT, false)
def withNext (n : LogN) (x : Int) : LogN := ⟨n.two, n.head, nextF n x, true, n.book, n.seen, n.durable, n.owe⟩
theorem withNext_ok {n : LogN} {x : Int} (h : logOkF n = true) (hx : inB x (n.head.base + 1) n.durable = true) : logOkF (withNext n x) = true := by
 obtain ⟨h1, h2, h3, h4⟩ := log_parts h
 unfold logOkF
 simp only [Bool.and_eq_true]
 refine ⟨h1, h2, h3, ?_⟩
 show (if true = true then (inB x (n.head.base + 1) n.durable && eqHd (nextF n x) (nextF n x)) else _) = true
 rw [if_pos rfl, hx]
 simp [eqHd, eqN]
theorem next_ok {n : LogN} {x : Int} (h : logOkF n = true) (hx : inB x (n.head.base + 1) n.durable = true) : headOk (nextF n x) = true := (log_next (withNext_ok h hx) rfl).1
theorem next_rng {n : LogN} {x : Int} (h : logOkF n = true) (hx : inB x (n.head.base + 1) n.durable = true) : n.book.base ≤ x ∧ x ≤ lastB n.book ∧ inB x (n.book.base + 1) (lastB n.book) = true := by
 obtain ⟨_, _, hb, he, _⟩ := log_all h
 have h1 := inB_iff.1 hx
 have h2 := inB_iff.1 (log_facts h).2
 exact ⟨by omega, by omega, inB_iff.2 ⟨by omega, by omega⟩⟩
theorem next_eq {n : LogN} {x : Int} (h : logOkF n = true) (hx : inB x (n.head.base + 1) n.durable = true) : nextF n x = ⟨n.head.num + 1, x, (entAtF n.book x).1.time, (seenOverF n.head.seen (n.book.entries.take (x - n.book.base).toNat)).1⟩ := by
 obtain ⟨_, _, hb, he, _⟩ := log_all h
 obtain ⟨h1, h2, h3⟩ := next_rng h hx
 have h4 := inB_iff.1 h3
 obtain ⟨m, hm1, hm2⟩ := at_get (b := n.book) (x := x) om h2
 unfold nextF
 rw [part_take hb, ent_yes hb h3 hm1 hm2]
 unfold timeAtF
 rw [if_neg om, atB_eq hm1 hm2]
theorem ta_no {n : LogN} {x : Int} (h : logOkF n = false) : trimAskedF n x = zeroL := by simp [trimAskedF, h]
theorem ta_more {n : LogN} {x : Int} (h : logOkF n = true) (h2 : n.more = true) : trimAskedF n x = n := by simp [trimAskedF, h, h2]
theorem ta_out {n : LogN} {x : Int} (h : logOkF n = true) (h2 : inB x (n.head.base + 1) n.durable = false) : trimAskedF n x = n := by simp [trimAskedF, h, h2]
theorem ta_lo {n : LogN} {x : Int} (h : logOkF n = true) (h2 : x ≤ n.head.base) : trimAskedF n x = n := ta_out h (by
 cases h3 : inB x (n.head.base + 1) n.durable with
 | false => rfl
 | true => have := inB_iff.1 h3; omega)
theorem ta_hi {n : LogN} {x : Int} (h : logOkF n = true) (h2 : x > n.durable) : trimAskedF n x = n := ta_out h (by
 cases h3 : inB x (n.head.base + 1) n.durable with
 | false => rfl
 | true => have := inB_iff.1 h3; omega)
theorem ta_fail {n : LogN} {x : Int} (h : logOkF n = true) (h2 : n.more = false) (h3 : inB x (n.head.base + 1) n.durable = true) (h4 : (keptHeadF n.two (nextF n x)).2 = false) : trimAskedF n x = n := by simp [trimAskedF, h, h2, h3, h4]
theorem ta_yes {n : LogN} {x : Int} (h : logOkF n = true) (h2 : n.more = false) (h3 : inB x (n.head.base + 1) n.durable = true) (h4 : (keptHeadF n.two (nextF n x)).2 = true) : trimAskedF n x = ⟨(keptHeadF n.two (nextF n x)).1, n.head, nextF n x, true, n.book, n.seen, n.durable, n.owe⟩ := by simp [trimAskedF, h, h2, h3, h4]
theorem wrote_ok {d : Disk} {x : Int} {row : List Int} (h : diskOk d = true) : diskOk (wroteF d x row).1 = true := by
 cases h2 : wroteOk d x row
 ·rw [wrote_fail h h2]; exact h
 ·rw [wrote_yes h h2]
  have h1 := diskOk_sizes h
  simp only [wroteOk, Bool.and_eq_true, decide_eq_true_eq] at h2
  simp only [diskOk, Bool.and_eq_true, decide_eq_true_eq, List.all_eq_true, List.length_append, List.length_singleton]
  refine ⟨by omega, by omega, by omega, h1.2.2.2.1, fun y hy => ?_⟩
  rcases List.mem_append.1 hy with hy | hy
  ·have := h1.2.2.2.2 y hy
   simpa [writeOk, hasAt] using this
  ·rw [List.mem_singleton.1 hy]
   simp only [writeOk, Bool.and_eq_true]
   exact ⟨h2.1, h2.2.1⟩
theorem wrote_len {d : Disk} {x : Int} {row : List Int} (h : diskOk d = true) : (wroteF d x row).1.kept = d.kept := by
 cases h2 : wroteOk d x row
 ·rw [wrote_fail h h2]
 ·rw [wrote_yes h h2]
theorem both_ok {t : Two} {x : Int} {row : List Int} (h : twoOk t = true) : twoOk (bothWroteF t x row).1 = true := by
 obtain ⟨h1, h2, h3⟩ := twoOk_iff.1 h
 unfold bothWroteF
 rw [h]
 simp only [if_true]
 split
 ·exact twoOk_iff.2 ⟨wrote_ok h1, wrote_ok h2, by rw [wrote_len h1, wrote_len h2, h3]⟩
 ·exact h
theorem c_keptRow (t : Two) (x : Int) (row : List Int) (hr : row ≠ []) : Pure Tryz.prog 176 [many (twoC t), one (iC x), one (ints row)] [many' (twoR ((keptRowF t x row).1)), one' (RC.v (.bool ((keptRowF t x row).2)))] := by
 refine pure_intro (N := 22) Tryz.func176 rfl rfl rfl rfl (fun H w => ?_)
 refine sq (rg (evl_e (e_box rfl rfl rfl rfl) (evl_e (e_alloc ttOk rfl rfl rfl rfl) (xs rfl rfl (nl (et (sq (sq (rg (xl ttOk rfl rfl (evl_call (nm := 9) (cf rfl) (c_KeptOk' t) (rs_of rfl) rfl rfl rfl (xo (q_not rfl) rfl (nl (et (ev_cond_n rfl (fun h1 => ?_) (fun h1 => ?_))))))))))))))))
 ·refine sq (rg (xo (q_build ttOk rfl) rfl (xst ttOk rfl rfl (xs rfl rfl (nl (et (ev_ret (evr_then (ret_pureN ttOk rfl rfl ?_)))))))))
  first
  | (rw [show keptRowF t x row = (zeroT, false) by simp only [keptRowF]; rw [h1]; rfl]; simp [RpLe, L2, RcLe, zeroD, zeroT]; done)
  | (rw [show keptRowF t x row = bothWroteF t x row by simp only [keptRowF]; rw [h1]; rfl]; simp [RpLe, L2, RcLe]; done)
 ·refine ev_skip (et (sq (sq (rg (xm rfl rfl (xo (q_nilv ttOk rfl rfl rfl (by simpa using hr) rfl rfl) rfl (nl (et (ev_cond_kf rfl (by first | rfl | assumption | exact nt ‹_› | exact nf ‹_›) (ev_skip (et (sq (rg (xl ttOk rfl rfl (xm rfl rfl (xm rfl rfl (evl_call (nm := 19) (cf rfl) (c_BothWrote' t x row) (rs_of rfl) rfl rfl rfl (xo (q_ext rfl) rfl (xo (q_ext rfl) rfl (xst ttOk rfl rfl (xs rfl rfl (nl (et (ev_ret (ret_pureN ttOk rfl rfl ?_)))))))))))))))))))))))))
  first
  | (rw [show keptRowF t x row = (zeroT, false) by simp only [keptRowF]; rw [h1]; rfl]; simp [RpLe, L2, RcLe, zeroD, zeroT]; done)
  | (rw [show keptRowF t x row = bothWroteF t x row by simp only [keptRowF]; rw [h1]; rfl]; simp [RpLe, L2, RcLe]; done)
theorem c_KeptHead' (t : Two) (h : Head) (hh : headOk h = true) : Pure Tryz.prog 93 [many (twoC t), many (headC h)] [many' (twoR ((keptHeadF t h).1)), one' (RC.v (.bool ((keptHeadF t h).2)))] := by
 refine pure_intro (N := 15) Tryz.func93 rfl rfl rfl rfl (fun H w => ?_)
 have hhd := head_bd hh
 refine sq (rg (evl_e (e_box rfl rfl rfl rfl) (evl_e (e_box rfl rfl rfl rfl) (evl_e (e_alloc ttOk rfl rfl rfl rfl) (xs rfl rfl (nl (et (sq (ev_drawq [9] mo (rk0 0 rfl (q_load ttOk rfl) rfl (rk0 1 rfl (q_fieldAddr ttOk rfl) rfl (rk0 2 rfl (q_load ttOk rfl) rfl (rk0 3 rfl (q_rem_pos rfl rfl om) rfl (rk0 4 rfl (q_load ttOk rfl) rfl (rdk_one 5 kr (rdo_call (nm := 11) rfl trivial (cf rfl) (c_HeadRow' h) (rs_of rfl) rfl rfl rfl (rdk_one 6 kr (rdo_call (nm := 12) rfl trivial (cf rfl) (c_keptRow t (h.num % 2) (headRowF h) (headRow_ne hh)) (rs_of rfl) rfl rfl rfl (rk0 7 rfl (q_ext rfl) rfl (rk0 8 rfl (q_ext rfl) rfl (rdk_one 9 kr (rdo_brk rfl rfl trivial (e_store ttOk rfl) (rdb_q 10 rfl kr trivial (q_assign rfl) rfl (rdb_endq kr (et (ev_ret (ret_pureN ttOk rfl rfl ?_)))))))))))))))))))))))))))
 rw [show keptHeadF t h = keptRowF t (h.num % 2) (headRowF h) by simp only [keptHeadF, keptRowF]; rw [hh]; rfl]; simp [RpLe, L2, RcLe]
theorem c_TrimAsked' (n : LogN) (x : Int) : Pure Tryz.prog 31 [many (logC n), one (iC x)] [many' (logR (trimAskedF n x))] := by
 refine pure_intro (N := 76) Tryz.func31 rfl rfl rfl rfl (fun H w => ?_)
 refine sq (rg (evl_e (e_box rfl rfl rfl rfl) (evl_e (e_alloc ttOk rfl rfl rfl rfl) (nl (et (sq (sq (rg (xl ttOk rfl rfl (evl_call (nm := 14) (cf rfl) (c_LogOk2 n) (rs_of rfl) rfl rfl rfl (xo (q_not rfl) rfl (nl (et (ev_cond_n rfl (fun h1 => ?_) (fun h1 => ?_)))))))))))))))
 try have d1 := of_decide_eq_false h1
 refine sq (rg (xo (q_build ttOk rfl) rfl (xst ttOk rfl rfl (nl (et (ev_ret (evr_then (ret_pureN ttOk rfl rfl ?_))))))))
 rotate_left
 try have d1 := of_decide_eq_true h1
 obtain ⟨hk, hh, hb, he1, he2⟩ := log_all h1
 have hsm := log_small h1
 have hbd := book_bd hb
 have hhd := head_bd hh
 refine ev_skip (et (sq (rg (xl ttOk rfl rfl (evl_call (nm := 18) (cf rfl) (c_copyLog n ‹_›) (rs_of rfl) rfl rfl rfl (evl_e (e_alloc ttOk rfl rfl rfl rfl) (xst ttOk rfl rfl (nl (et (sq (sq (rg (xf ttOk rfl rfl (xl ttOk rfl rfl (xm rfl rfl (evl_part rfl rfl (fun h2 => ?_) (fun h2 => ?_)))))))))))))))))
 try have d2 := of_decide_eq_true h2
 refine gn h2 rfl rfl rfl (gn h2 rfl rfl rfl (gn h2 rfl rfl rfl (gn h2 rfl rfl rfl (gn h2 rfl rfl rfl (xo (q_pick_t rfl h2 rfl) rfl (xm rfl rfl (gn rfl rfl rfl rfl (gn rfl rfl rfl rfl (gn rfl rfl rfl rfl (gn rfl rfl rfl rfl (xo (q_pick_t rfl rfl rfl) rfl (nl (et (ev_cond_kt rfl rfl (sq (rg (xl ttOk rfl rfl (xst ttOk rfl rfl (nl (et (ev_ret (evr_then (ret_pureN ttOk rfl rfl ?_)))))))))))))))))))))))
 rotate_left
 try have d2 := of_decide_eq_false h2
 refine gm h2 rfl rfl rfl rfl (go h2 rfl rfl (q_fieldAddr ttOk rfl) rfl (go h2 rfl rfl (q_fieldAddr ttOk rfl) rfl (go h2 rfl rfl (q_load ttOk rfl) rfl (go h2 rfl rfl (q_bin ttOk rfl) rfl (xo (q_pick_f rfl h2 rfl) rfl (xm rfl rfl (evl_part rfl rfl (fun h3 => ?_) (fun h3 => ?_))))))))
 try have d3 := of_decide_eq_true h3
 refine gn h3 rfl rfl rfl (gn h3 rfl rfl rfl (gn h3 rfl rfl rfl (gn h3 rfl rfl rfl (xo (q_pick_t rfl h3 rfl) rfl (nl (et (ev_cond_kt rfl rfl (sq (rg (xl ttOk rfl rfl (xst ttOk rfl rfl (nl (et (ev_ret (evr_then (ret_pureN ttOk rfl rfl ?_))))))))))))))))
 rotate_left
 try have d3 := of_decide_eq_false h3
 refine gm h3 rfl rfl rfl rfl (go h3 rfl rfl (q_fieldAddr ttOk rfl) rfl (go h3 rfl rfl (q_load ttOk rfl) rfl (go h3 rfl rfl (q_bin ttOk rfl) rfl (xo (q_pick_f rfl h3 rfl) rfl (nl (et (ev_cond rfl (fun h4 => ?_) (fun h4 => ?_))))))))
 try have d4 := of_decide_eq_true h4
 refine sq (rg (xl ttOk rfl rfl (xst ttOk rfl rfl (nl (et (ev_ret (evr_then (ret_pureN ttOk rfl rfl ?_))))))))
 rotate_left
 try have d4 := of_decide_eq_false h4
 refine ev_skip (et (sq ?_))
 have hx : inB x (n.head.base + 1) n.durable = true := inB_iff.2 ⟨by omega, by omega⟩
 have hnr := next_rng h1 hx
 have hnok := next_ok h1 hx
 have hne := next_eq h1 hx
 have hck := c_KeptHead' n.two (nextF n x) hnok
 simp only [show headC (nextF n x) = headC (⟨n.head.num + 1, x, (entAtF n.book x).1.time, (seenOverF n.head.seen (n.book.entries.take (x - n.book.base).toNat)).1⟩ : Head) from congrArg headC hne] at hck
 refine rg (xf ttOk rfl rfl (xl ttOk rfl rfl (xm rfl rfl (evl_call (nm := 39) (cf rfl) (c_EntryAt n.book x) (rs_of rfl) rfl rfl rfl (xm rfl rfl (xo (q_ext rfl) rfl (xo (q_ext rfl) rfl (evl_e (e_alloc ttOk rfl rfl rfl rfl) (xst ttOk rfl rfl (xs rfl rfl (nl (et (sq (rg (xf ttOk rfl rfl (xl ttOk rfl rfl (xf ttOk rfl rfl (xl ttOk rfl rfl (xm rfl rfl (evl_call (nm := 48) (cf rfl) (c_seenUpTo n.head n.book x hb ⟨hnr.1, hnr.2.1⟩) (rs_of rfl) rfl rfl rfl (xm rfl rfl (xo (q_ext rfl) rfl (xo (q_ext rfl) rfl (xs rfl rfl (xs rfl rfl (nl (et (sq (rg (xf ttOk rfl rfl (xf ttOk rfl rfl (xl ttOk rfl rfl (xa rfl rfl rfl om rfl (xm rfl rfl (xf ttOk rfl rfl (xl ttOk rfl rfl (xm rfl rfl (xo (q_build ttOk rfl) rfl (evl_e (e_alloc ttOk rfl rfl rfl rfl) (xst ttOk rfl rfl (nl (et (sq (rg (xf ttOk rfl rfl (xl ttOk rfl rfl (xl ttOk rfl rfl (evl_call (nm := 64) (cf rfl) hck (rs_of rfl) rfl rfl rfl (xm rfl rfl (xo (q_ext rfl) rfl ?_))))))))))))))))))))))))))))))))))))))))))))))))))
 refine xo (q_ext rfl) rfl (evl_e (e_alloc ttOk rfl rfl rfl rfl) (xst ttOk rfl rfl (xs rfl rfl (nl (et (sq (sq (rg (xm rfl rfl (xo (q_not rfl) rfl (nl (et (ev_cond_n rfl (fun h5 => ?_) (fun h5 => ?_))))))))))))))
 try have d5 := of_decide_eq_false h5
 refine sq (rg (xl ttOk rfl rfl (xst ttOk rfl rfl (nl (et (ev_ret (evr_then (ret_pureN ttOk rfl rfl ?_))))))))
 rotate_left
 try have d5 := of_decide_eq_true h5
 refine ev_skip (et (sq ?_))
 refine' ev_drawhJ mo ?hdr1 ?kdr1
 case hdr1 =>
   refine rdh_2 0 1 kr ?_ ?_
   ·refine rdho_q rfl trivial (q_load ttOk rfl) rfl (rdh_take 2 rfl kr trivial (QuietW.h (qw_fieldAddr ttOk rfl)) rfl (rdh_2 1 3 kr ?_ ?_))
    ·refine rdho_q rfl trivial (q_load ttOk rfl) rfl (rdh_1 3 kr (rdho_eff rfl trivial (e_store ttOk rfl) (rdh_take 4 rfl kr trivial (QuietW.h (qw_fieldAddr ttOk rfl)) rfl (rdh_1 5 kr (rdho_eff rfl trivial (e_store ttOk rfl) (rdh_take 6 rfl kr trivial (QuietW.h (qw_fieldAddr ttOk rfl)) rfl (rdh_1 7 kr (rdho_eff rfl trivial (e_store ttOk rfl) ?_))))))))
     exact rdh_fin kr
    ·refine rdho_eff rfl trivial (e_store ttOk rfl) (rdh_1 1 kr (rdho_q rfl trivial (q_load ttOk rfl) rfl (rdh_take 4 rfl kr trivial (QuietW.h (qw_fieldAddr ttOk rfl)) rfl (rdh_1 5 kr (rdho_eff rfl trivial (e_store ttOk rfl) (rdh_take 6 rfl kr trivial (QuietW.h (qw_fieldAddr ttOk rfl)) rfl (rdh_1 7 kr (rdho_eff rfl trivial (e_store ttOk rfl) ?_))))))))
     exact rdh_le [] kr lei
   ·refine rdho_q rfl trivial (q_load ttOk rfl) rfl (rdh_1 0 kr (rdho_q rfl trivial (q_load ttOk rfl) rfl (rdh_take 2 rfl kr trivial (QuietW.h (qw_fieldAddr ttOk rfl)) rfl (rdh_1 3 kr (rdho_eff rfl trivial (e_store ttOk rfl) (rdh_take 4 rfl kr trivial (QuietW.h (qw_fieldAddr ttOk rfl)) rfl (rdh_1 5 kr (rdho_eff rfl trivial (e_store ttOk rfl) (rdh_take 6 rfl kr trivial (QuietW.h (qw_fieldAddr ttOk rfl)) rfl (rdh_1 7 kr (rdho_eff rfl trivial (e_store ttOk rfl) ?_)))))))))))
    exact rdh_le [] kr lei
 refine et (sq (rg (xl ttOk rfl rfl (xst ttOk rfl rfl (nl (et (ev_ret (ret_pureN ttOk rfl rfl ?_))))))))
 rotate_left
 all_goals
  first
  | (rw [ta_no ‹_›]; simp [RpLe, L2, RcLe, zeroL, zeroD, zeroT, noHead]; done)
  | (rw [ta_more ‹_› ‹_›]; simp [RpLe, L2, RcLe]; done)
  | (rw [ta_out ‹_› ‹_›]; simp [RpLe, L2, RcLe]; done)
  | (rw [ta_lo ‹_› ‹_›]; simp [RpLe, L2, RcLe]; done)
  | (rw [ta_hi ‹_› ‹_›]; simp [RpLe, L2, RcLe]; done)
  | (rw [ta_fail ‹_› ‹_› hx ‹_›]; simp [RpLe, L2, RcLe]; done)
  | (rw [ta_yes ‹_› ‹_› hx ‹_›]; simp [RpLe, L2, RcLe]; done)
  | (rw [ta_yes ‹_› ‹_› hx ‹_›]; simp [RpLe, L2, RcLe, hne]; done)
def slotF (x : Int) : Int := 2 + x % 20
def timeB (b : Book) : Int := timeAtF b (lastB b)
theorem timeB_nil {b : Book} (h : b.entries.length = 0) : timeB b = b.time := by
 unfold timeB timeAtF lastB
 rw [if_pos om]
theorem timeB_last {b : Book} {m : Nat} (h : b.entries.length = m + 1) : timeB b = b.entries[m].time := by
 unfold timeB timeAtF
 rw [if_neg (by unfold lastB; omega), atB_eq (m := m) (by unfold lastB; omega) om]
def fitsF (b : Book) (e : Entry) : Bool := entryOk e && (decide (e.index = lastB b + 1) && (decide (e.time ≥ timeB b) && decide (b.entries.length < 20)))
theorem fits_iff {b : Book} {e : Entry} : fitsF b e = true ↔ entryOk e = true ∧ e.index = lastB b + 1 ∧ e.time ≥ timeB b ∧ b.entries.length < 20 := by simp [fitsF]
def appF (b : Book) (e : Entry) : Book := ⟨b.base, b.time, b.entries ++ [e]⟩
theorem ents_snoc {l : List Entry} {e : Entry} (h : entriesOk l = true) (h1 : entryOk e = true) (h2 : l.length < 2000) (h3 : ∀ m (hm : l.length = m + 1), e.index = l[m].index + 1 ∧ l[m].time ≤ e.time) : entriesOk (l ++ [e]) = true := by
 obtain ⟨h4, h5⟩ := entriesOk_iff.1 h
 refine entriesOk_iff.2 ⟨by simp; omega, fun k hk => ?_⟩
 rcases Nat.lt_or_ge k l.length with hk1 | hk1
 ·have h6 := h5 k hk1
  rw [entStep_at hk1] at h6
  rw [entStep_at hk]
  cases k with
  | zero => simpa [entOver, List.getElem_append, hk1] using h6
  | succ j =>
   rw [entOver_at hk1 om] at h6
   rw [entOver_at hk om]
   have hj : j < l.length := by omega
   simpa [List.getElem_append, hk1, hj] using h6
 ·have hkl : k = l.length := by simp at hk; omega
  subst hkl
  rw [entStep_at hk]
  have e1 : (l ++ [e])[l.length] = e := by simp
  rw [e1, h1, Bool.true_and]
  cases hl : l.length with
  | zero => rfl
  | succ j =>
   have h6 := h3 j hl
   have hj : j < l.length := by omega
   simp only [entOver, List.getElem?_append_left hj, List.getElem?_eq_getElem hj, h6.1, h6.2]
   simp
theorem app_ok {b : Book} {e : Entry} (hb : bookOk b = true) (hf : fitsF b e = true) : bookOk (appF b e) = true := by
 obtain ⟨f1, f2, f3, f4⟩ := fits_iff.1 hf
 have hbd := book_bd hb
 have h9 := hb
 simp only [bookOk, Bool.and_eq_true] at h9
 have hS : entriesOk (b.entries ++ [e]) = true := ents_snoc hbd.2.2.2.2 f1 om fun m hm => by
  have h1 := ent_ix hb m om
  rw [timeB_last hm] at f3
  unfold lastB at f2
  exact ⟨by omega, by omega⟩
 simp only [appF, bookOk, Bool.and_eq_true]
 refine ⟨h9.1, h9.2.1, h9.2.2.1, by simp; omega, hS, ?_⟩
 have h6 := h9.2.2.2.2.2
 show (match b.entries ++ [e] with
  | [] => true
  | x :: _ => decide (x.index = b.base + 1) && decide (x.time ≥ b.time)) = true
 cases hl : b.entries with
 | nil =>
  have h0 : b.entries.length = 0 := by rw [hl]; rfl
  rw [timeB_nil h0] at f3
  unfold lastB at f2
  show (decide (e.index = b.base + 1) && decide (e.time ≥ b.time)) = true
  rw [h0] at f2
  simp only [Bool.and_eq_true, decide_eq_true_eq]
  exact ⟨by omega, f3⟩
 | cons a l =>
  rw [hl] at h6
  exact h6
def entOf (l : List Int) : Entry := ⟨l.getD 0 0, l.getD 1 0, l.getD 2 0, l.getD 3 0, l.getD 4 0, l.getD 5 0, l.getD 6 0, l.getD 7 0, l.getD 8 0⟩
def rowSlotF (l : List Int) : Option Entry := if l.length = 11 ∧ entryOk (entOf l) = true ∧ l.getD 9 0 = l.getD 0 0 ∧ l.getD 10 0 = l.getD 0 0 then some (entOf l) else none
def takeE (b : Book) (s : List Mark) (row : List Int) : Option Entry := match rowSlotF row with
 | some e => if e.index = lastB b + 1 ∧ fitsF b e = true ∧ freshF s e = true then some e else none
 | none => none
def nextE (t : Two) (b : Book) (s : List Mark) : Option Entry := (rightF t (slotF (lastB b + 1))).findSome? (takeE b s)
theorem over_one {l : List Mark} {e : Entry} : seenOverF l [e] = markedF l e := by
 cases h : seenOk l
 ·rw [so1 h, mk_no0 h]
 ·cases hf : freshF l e
  ·rw [mk_no h hf, so3 h]
   simp [overL, hf]
  ·rw [mk_yes h hf, so4 h (by simp)]
   simp [overL, hf]
theorem c_slotOf (x : Int) (hx : 0 ≤ x ∧ x ≤ 100000) : Pure Tryz.prog 184 [one (iC x)] (iR (slotF x)) := by
 refine pure_intro (N := 6) Tryz.func184 rfl rfl rfl rfl (fun H w => ?_)
 refine sq (rg (xs rfl rfl (nl (et (sq (rg (xm rfl rfl (xo (q_rem_pos rfl rfl om) rfl (xa rfl rfl rfl om rfl (xs rfl rfl (nl (et (ev_ret (ret_pure' ttOk rfl rfl ?_))))))))))))))
 rfl
theorem c_timeOf (b : Book) (hb : bookOk b = true) : Pure Tryz.prog 146 [many (bookC b)] (iR (timeB b)) := by
 refine pure_intro (N := 18) Tryz.func146 rfl rfl rfl rfl (fun H w => ?_)
 have hbd := book_bd hb
 refine sq (rg (evl_e (e_box rfl rfl rfl rfl) (xs rfl rfl (nl (et (sq (sq (rg (xf ttOk rfl rfl (xl ttOk rfl rfl (xo (q_len_map ttOk rfl rfl) rfl (xb ttOk rfl rfl (nl (et (ev_cond rfl (fun h1 => ?_) (fun h1 => ?_))))))))))))))))
 ·try have d1 := of_decide_eq_true h1
  refine sq (rg (xf ttOk rfl rfl (xl ttOk rfl rfl (xs rfl rfl (nl (et (ev_ret (evr_then (ret_pure' ttOk rfl rfl ?_)))))))))
  rw [timeB_nil om]
 ·try have d1 := of_decide_eq_false h1
  refine ev_skip (et (sq ?_))
  obtain ⟨m, hm⟩ : ∃ m, b.entries.length = m + 1 := ⟨b.entries.length - 1, by omega⟩
  refine rg (xf ttOk rfl rfl (xl ttOk rfl rfl (xf ttOk rfl rfl (xl ttOk rfl rfl (xo (q_len_map ttOk rfl rfl) rfl (xa rfl rfl rfl om rfl (xo (q_ix_map (m := m) ttOk rfl rfl rfl om om) rfl (xf ttOk rfl rfl (xl ttOk rfl rfl (xs rfl rfl (nl (et (ev_ret (ret_pure' ttOk rfl rfl ?_))))))))))))))
  rw [timeB_last hm]
theorem c_fits (b : Book) (e : Entry) (hb : bookOk b = true) : Pure Tryz.prog 147 [many (bookC b), many (entryC e)] (bR (fitsF b e)) := by
 refine pure_intro (N := 28) Tryz.func147 rfl rfl rfl rfl (fun H w => ?_)
 have hbd := book_bd hb
 have hla : lastB b = b.base + b.entries.length := rfl
 refine sq (rg (evl_e (e_box rfl rfl rfl rfl) (evl_e (e_box rfl rfl rfl rfl) (xs rfl rfl (nl (et (sq (ev_drawq [] mo (rk0 0 rfl (q_load ttOk rfl) rfl (rdk_one 1 kr (rdo_call (nm := 6) rfl trivial (cf rfl) (c_EntryOk' e) (rs_of rfl) rfl rfl rfl (rk0 2 rfl (q_move rfl) rfl (rdk_part (t := 7) rfl (fun h1 => ?_) (fun h1 => ?_))))))))))))))
 ·refine rkt 3 rfl rfl rfl h1 (q_fieldAddr ttOk rfl) rfl (rkt 4 rfl rfl rfl h1 (q_load ttOk rfl) rfl (rkt 5 rfl rfl rfl h1 (q_load ttOk rfl) rfl (rdk_one 6 kr (rdo_call (nm := 11) rfl ⟨_, _, rfl, rfl, h1⟩ (cf rfl) (c_lastOf b hb) (rs_of rfl) rfl rfl rfl (rkt 7 rfl rfl rfl h1 (q_ar rfl rfl rfl om) rfl (rkt 8 rfl rfl rfl h1 (q_bin ttOk rfl) rfl (rk0 9 rfl (q_pick_t rfl h1 rfl) rfl (rk0 10 rfl (q_move rfl) rfl (rdk_part (t := 15) rfl (fun h2 => ?_) (fun h2 => ?_))))))))))
  ·refine rkt 11 rfl rfl rfl h2 (q_fieldAddr ttOk rfl) rfl (rkt 12 rfl rfl rfl h2 (q_load ttOk rfl) rfl (rkt 13 rfl rfl rfl h2 (q_load ttOk rfl) rfl (rdk_one 14 kr (rdo_call (nm := 19) rfl ⟨_, _, rfl, rfl, h2⟩ (cf rfl) (c_timeOf b hb) (rs_of rfl) rfl rfl rfl (rkt 15 rfl rfl rfl h2 (q_bin ttOk rfl) rfl (rk0 16 rfl (q_pick_t rfl h2 rfl) rfl (rk0 17 rfl (q_move rfl) rfl (rdk_part (t := 22) rfl (fun h3 => ?_) (fun h3 => ?_)))))))))
   ·refine rkt 18 rfl rfl rfl h3 (q_fieldAddr ttOk rfl) rfl (rkt 19 rfl rfl rfl h3 (q_load ttOk rfl) rfl (rkt 20 rfl rfl rfl h3 (q_len_map ttOk rfl rfl) rfl (rkt 21 rfl rfl rfl h3 (q_bin ttOk rfl) rfl (rk0 22 rfl (q_pick_t rfl h3 rfl) rfl (rk0 23 rfl (q_assign rfl) rfl (rdk_endq kr (et (ev_ret (ret_pure' ttOk rfl rfl (congrArg bR (?_ : _ = _)))))))))))
    simp_all [fitsF] <;> (intros; omega)
   ·refine rks 18 rfl rfl rfl h3 rfl (rks 19 rfl rfl rfl h3 rfl (rks 20 rfl rfl rfl h3 rfl (rks 21 rfl rfl rfl h3 rfl (rk0 22 rfl (q_pick_f rfl h3 rfl) rfl (rk0 23 rfl (q_assign rfl) rfl (rdk_endq kr (et (ev_ret (ret_pure' ttOk rfl rfl (congrArg bR (?_ : _ = _)))))))))))
    simp_all [fitsF] <;> (intros; omega)
  ·refine rks 11 rfl rfl rfl h2 rfl (rks 12 rfl rfl rfl h2 rfl (rks 13 rfl rfl rfl h2 rfl (rks 14 rfl rfl rfl h2 rfl (rks 15 rfl rfl rfl h2 rfl (rk0 16 rfl (q_pick_f rfl h2 rfl) rfl (rk0 17 rfl (q_move rfl) rfl (rks 18 rfl rfl rfl rfl rfl (rks 19 rfl rfl rfl rfl rfl (rks 20 rfl rfl rfl rfl rfl (rks 21 rfl rfl rfl rfl rfl (rk0 22 rfl (q_pick_f rfl rfl rfl) rfl (rk0 23 rfl (q_assign rfl) rfl (rdk_endq kr (et (ev_ret (ret_pure' ttOk rfl rfl (congrArg bR (?_ : _ = _))))))))))))))))))
   simp_all [fitsF] <;> (intros; omega)
 ·refine rks 3 rfl rfl rfl h1 rfl (rks 4 rfl rfl rfl h1 rfl (rks 5 rfl rfl rfl h1 rfl (rks 6 rfl rfl rfl h1 rfl (rks 7 rfl rfl rfl h1 rfl (rks 8 rfl rfl rfl h1 rfl (rk0 9 rfl (q_pick_f rfl h1 rfl) rfl (rk0 10 rfl (q_move rfl) rfl (rks 11 rfl rfl rfl rfl rfl (rks 12 rfl rfl rfl rfl rfl (rks 13 rfl rfl rfl rfl rfl (rks 14 rfl rfl rfl rfl rfl (rks 15 rfl rfl rfl rfl rfl (rk0 16 rfl (q_pick_f rfl rfl rfl) rfl (rk0 17 rfl (q_move rfl) rfl (rks 18 rfl rfl rfl rfl rfl (rks 19 rfl rfl rfl rfl rfl (rks 20 rfl rfl rfl rfl rfl (rks 21 rfl rfl rfl rfl rfl (rk0 22 rfl (q_pick_f rfl rfl rfl) rfl (rk0 23 rfl (q_assign rfl) rfl (rdk_endq kr (et (ev_ret (ret_pure' ttOk rfl rfl (congrArg bR (?_ : _ = _))))))))))))))))))))))))))
  simp_all [fitsF] <;> (intros; omega)
theorem c_Marked' (l : List Mark) (e : Entry) : Pure Tryz.prog 149 [one (marks l), many (entryC e)] [one' (marksR (markedF l e).1), one' (RC.v (.bool (markedF l e).2))] := by
 refine pure_intro (N := 12) Tryz.func149 rfl rfl rfl rfl (fun H w => ?_)
 refine sq (rg (evl_e (e_box rfl rfl rfl rfl) (xs rfl rfl (xs rfl rfl (nl (et (sq (rg (xm rfl rfl (xl ttOk rfl rfl (evl_e (e_lit ttOk rfl rfl rfl) (evl_call (nm := 9) (cf rfl) (c_SeenOver' l [e]) (rs_of rfl) rfl rfl rfl (xo (q_ext rfl) rfl (xo (q_ext rfl) rfl (xs rfl rfl (xs rfl rfl (nl (et (ev_ret (ret_pure' ttOk rfl rfl ?_))))))))))))))))))))
 rw [← over_one]
theorem book_last {b : Book} (hb : bookOk b = true) : 0 ≤ lastB b ∧ lastB b ≤ 2020 := by
 have hbd := book_bd hb
 unfold lastB
 omega
section
variable {b : Book} {s : List Mark} {r : List Int}
end
section
variable {b : Book} {s : List Mark} {r : List Int} {i : Int}
end
def slotRowF (e : Entry) : List Int := if entryOk e then e.nums ++ [e.index, e.index] else []
theorem slotRow_yes {e : Entry} (h : entryOk e = true) : slotRowF e = e.nums ++ [e.index, e.index] := by simp [slotRowF, h]
theorem c_numbersOp (e : Entry) : Pure Tryz.prog 258 [many [iC e.kind, iC e.a, iC e.b, iC e.c, iC e.d]] [one' (intsR 2 [e.kind, e.a, e.b, e.c, e.d])] := by
 refine pure_intro (N := 14) Tryz.func258 rfl rfl rfl rfl (fun H w => ?_)
 refine sq (rg (evl_e (e_box rfl rfl rfl rfl) (xs rfl rfl (nl (et (sq (rg (xf ttOk rfl rfl (xl ttOk rfl rfl (xf ttOk rfl rfl (xl ttOk rfl rfl (xf ttOk rfl rfl (xl ttOk rfl rfl (xf ttOk rfl rfl (xl ttOk rfl rfl (xf ttOk rfl rfl (xl ttOk rfl rfl (evl_e (e_lit ttOk rfl rfl rfl) (xs rfl rfl (nl (et (ev_ret (ret_pure' ttOk rfl rfl ?_)))))))))))))))))))))))
 rfl
theorem c_numbers (e : Entry) : Pure Tryz.prog 230 [many (entryC e)] [one' (intsR 2 e.nums)] := by
 refine pure_intro (N := 22) Tryz.func230 rfl rfl rfl rfl (fun H w => ?_)
 refine sq (rg (evl_e (e_box rfl rfl rfl rfl) (xs rfl rfl (nl (et (sq (rg (xf ttOk rfl rfl (xl ttOk rfl rfl (xf ttOk rfl rfl (xl ttOk rfl rfl (xf ttOk rfl rfl (xl ttOk rfl rfl (xf ttOk rfl rfl (xl ttOk rfl rfl (xf ttOk rfl rfl (xl ttOk rfl rfl (evl_e (e_lit ttOk rfl rfl rfl) (xo (q_build ttOk rfl) rfl (evl_e (e_alloc ttOk rfl rfl rfl rfl) (xst ttOk rfl rfl (nl (et (sq (ev_drawq [5] mo (rk0 0 rfl (q_fieldAddr ttOk rfl) rfl (rk0 1 rfl (q_load ttOk rfl) rfl (rk0 2 rfl (q_fieldAddr ttOk rfl) rfl (rk0 3 rfl (q_load ttOk rfl) rfl (rdk_one 4 kr (rdo_call (nm := 20) rfl trivial (cf rfl) (c_numbersOp e) (rs_of rfl) rfl rfl rfl (rdk_one 5 kr (rdo_brk rfl rfl trivial (e_app ttOk rfl rfl rfl rfl rfl rfl rfl (by simp) rfl rfl) (rdb_q 6 rfl kr trivial (q_assign rfl) rfl (rdb_endq kr (et (ev_ret (ret_pure' ttOk rfl rfl ?_))))))))))))))))))))))))))))))))))))))
 rfl
theorem c_SlotRow' (e : Entry) (h : entryOk e = true) : Pure Tryz.prog 183 [many (entryC e)] [one' (intsR 2 (slotRowF e))] := by
 refine pure_intro (N := 14) Tryz.func183 rfl rfl rfl rfl (fun H w => ?_)
 refine sq (rg (evl_e (e_box rfl rfl rfl rfl) (xs rfl rfl (nl (et (sq (sq (rg (xl ttOk rfl rfl (evl_call (nm := 4) (cf rfl) (c_EntryOk' e) (rs_of rfl) rfl rfl rfl (xo (q_not rfl) rfl (nl (et (ev_cond_n rfl (fun h1 => ?_) (fun h1 => ?_)))))))))))))))
 ·refine sq (rg (xs rfl rfl (nl (et (ev_ret (evr_then (ret_pure' ttOk rfl rfl ?_)))))))
  first
  | (rw [slotRow_yes h] <;> rfl)
  | (exfalso; simp_all; done)
 ·refine ev_skip (et (sq (ev_drawq [7] mo (rk0 0 rfl (q_load ttOk rfl) rfl (rk0 2 rfl (q_fieldAddr ttOk rfl) rfl (rk0 3 rfl (q_load ttOk rfl) rfl (rk0 4 rfl (q_fieldAddr ttOk rfl) rfl (rk0 5 rfl (q_load ttOk rfl) rfl (rdk_two 1 6 kr ?_ ?_)))))))))
  ·refine rdo_call (nm := 7) rfl trivial (cf rfl) (c_numbers e) (rs_of rfl) rfl rfl rfl (rdk_one 6 kr (rdo_new rfl trivial (e_lit ttOk rfl rfl rfl) (rdk_one 7 kr (rdo_brk rfl rfl trivial (e_app ttOk rfl rfl rfl rfl rfl rfl rfl (by simp [Entry.nums]) rfl rfl) (rdb_q 8 rfl kr trivial (q_assign rfl) rfl (rdb_endq kr (et (ev_ret (ret_pure' ttOk rfl rfl ?_)))))))))
   first
   | (rw [slotRow_yes h] <;> rfl)
   | (exfalso; simp_all; done)
  ·refine rdo_new rfl trivial (e_lit ttOk rfl rfl rfl) (rdk_one 1 kr (rdo_call (nm := 7) rfl trivial (cf rfl) (c_numbers e) (rs_of rfl) rfl rfl rfl (rdk_one 7 kr (rdo_brk rfl rfl trivial (e_app ttOk rfl rfl rfl rfl rfl rfl rfl (by simp [Entry.nums]) rfl rfl) (rdb_q 8 rfl kr trivial (q_assign rfl) rfl (rdb_endq kr (et (ev_ret (ret_pure' ttOk rfl rfl ?_)))))))))
   first
   | (rw [slotRow_yes h] <;> rfl)
   | (exfalso; simp_all; done)
end Go.Proofs.YtinmcdcmidlgpaaGreatDoor
