/- Walks of functions of the program, printed by a program of the prover. -/
import Derived.Test.YtahkjonokeifmaaGreatRaF47
import Derived.Test.YtahkjonokeifmaaGreatRaVDB
namespace Go.Proofs.YtahkjonokeifmaaGreat
open Go.ChangeShapes Go.WideShapes Go.ChangeAt Go.RowKit
set_option linter.unusedVariables false
set_option linter.unusedSimpArgs false
set_option maxHeartbeats 1000000
set_option maxRecDepth 100000
attribute [local irreducible] EvL Ev EvE Quiet Eff Pure RDk RDb RDo
def slotF (x : Int) : Int := 2 + x % 20
def timeB (b : Book) : Int := timeAtF b (lastB b)
theorem timeB_nil {b : Book} (h : b.entries.length = 0) : timeB b = b.time := by
 unfold timeB timeAtF lastB
 rw [if_pos om]
theorem timeB_last {b : Book} {m : Nat} (h : b.entries.length = m + 1) : timeB b = b.entries[m].time := by
 unfold timeB timeAtF
 rw [if_neg (by unfold lastB; omega), atB_eq (m := m) (by unfold lastB; omega) om]
def fitsF (b : Book) (e : Entry) : Bool := entryOk e && (decide (e.index = lastB b + 1) && (decide (e.time ≥ timeB b) && decide (b.entries.length < 20)))
theorem fits_iff {b : Book} {e : Entry} : fitsF b e = true ↔ entryOk e = true ∧ e.index = lastB b + 1 ∧ e.time ≥ timeB b ∧ b.entries.length < 20 := by simp [fitsF]
def appF (b : Book) (e : Entry) : Book := ⟨b.base, b.time, b.entries ++ [e]⟩
def appendedF (b : Book) (e : Entry) : Book × Bool := if bookOk b then if fitsF b e then (appF b e, true) else (b, false) else (⟨0, 0, []⟩, false)
theorem apd_yes {b : Book} {e : Entry} (h : bookOk b = true) (h2 : fitsF b e = true) : appendedF b e = (appF b e, true) := by simp [appendedF, h, h2]
theorem ents_snoc {l : List Entry} {e : Entry} (h : entriesOk l = true) (h1 : entryOk e = true) (h2 : l.length < 2000) (h3 : ∀ m (hm : l.length = m + 1), e.index = l[m].index + 1 ∧ l[m].time ≤ e.time) : entriesOk (l ++ [e]) = true := by
 obtain ⟨h4, h5⟩ := entriesOk_iff.1 h
 refine entriesOk_iff.2 ⟨by simp; omega, fun k hk => ?_⟩
 rcases Nat.lt_or_ge k l.length with hk1 | hk1
 ·have h6 := h5 k hk1
  rw [entStep_at hk1] at h6
  rw [entStep_at hk]
  cases k with
  | zero => simpa [entOver, List.getElem_append, hk1] using h6
  | succ j =>
   rw [entOver_at hk1 om] at h6
   rw [entOver_at hk om]
   have hj : j < l.length := by omega
   simpa [List.getElem_append, hk1, hj] using h6
 ·have hkl : k = l.length := by simp at hk; omega
  subst hkl
  rw [entStep_at hk]
  have e1 : (l ++ [e])[l.length] = e := by simp
  rw [e1, h1, Bool.true_and]
  cases hl : l.length with
  | zero => rfl
  | succ j =>
   have h6 := h3 j hl
   have hj : j < l.length := by omega
   simp only [entOver, List.getElem?_append_left hj, List.getElem?_eq_getElem hj, h6.1, h6.2]
   simp
theorem app_ok {b : Book} {e : Entry} (hb : bookOk b = true) (hf : fitsF b e = true) : bookOk (appF b e) = true := by
 obtain ⟨f1, f2, f3, f4⟩ := fits_iff.1 hf
 have hbd := book_bd hb
 have h9 := hb
 simp only [bookOk, Bool.and_eq_true] at h9
 have hS : entriesOk (b.entries ++ [e]) = true := ents_snoc hbd.2.2.2.2 f1 om fun m hm => by
  have h1 := ent_ix hb m om
  rw [timeB_last hm] at f3
  unfold lastB at f2
  exact ⟨by omega, by omega⟩
 simp only [appF, bookOk, Bool.and_eq_true]
 refine ⟨h9.1, h9.2.1, h9.2.2.1, by simp; omega, hS, ?_⟩
 have h6 := h9.2.2.2.2.2
 show (match b.entries ++ [e] with
  | [] => true
  | x :: _ => decide (x.index = b.base + 1) && decide (x.time ≥ b.time)) = true
 cases hl : b.entries with
 | nil =>
  have h0 : b.entries.length = 0 := by rw [hl]; rfl
  rw [timeB_nil h0] at f3
  unfold lastB at f2
  show (decide (e.index = b.base + 1) && decide (e.time ≥ b.time)) = true
  rw [h0] at f2
  simp only [Bool.and_eq_true, decide_eq_true_eq]
  exact ⟨by omega, f3⟩
 | cons a l =>
  rw [hl] at h6
  exact h6
def entOf (l : List Int) : Entry := ⟨l.getD 0 0, l.getD 1 0, l.getD 2 0, l.getD 3 0, l.getD 4 0, l.getD 5 0, l.getD 6 0, l.getD 7 0, l.getD 8 0⟩
def rowEntF (l : List Int) : Option Entry := if l.length = 9 ∧ entryOk (entOf l) = true then some (entOf l) else none
def rowSlotF (l : List Int) : Option Entry := if l.length = 11 ∧ entryOk (entOf l) = true ∧ l.getD 9 0 = l.getD 0 0 ∧ l.getD 10 0 = l.getD 0 0 then some (entOf l) else none
theorem re_no1 {l : List Int} (h : l.length ≠ 9) : rowEntF l = none := if_neg fun hh => h hh.1
theorem re_no2 {l : List Int} (h : entryOk (entOf l) = false) : rowEntF l = none := if_neg fun hh => by rw [hh.2] at h; cases h
theorem re_yes {l : List Int} (h : l.length = 9) (h2 : entryOk (entOf l) = true) : rowEntF l = some (entOf l) := if_pos ⟨h, h2⟩
theorem getD_take {l : List Int} {m k : Nat} (h : k < m) : (l.take m).getD k 0 = l.getD k 0 := by
 simp only [List.getD_eq_getElem?_getD]
 rw [List.getElem?_take, if_pos h]
theorem entOf_take (l : List Int) : entOf (l.take 9) = entOf l := by
 unfold entOf
 simp only [getD_take (l := l) (m := 9) (k := 0) om, getD_take (l := l) (m := 9) (k := 1) om, getD_take (l := l) (m := 9) (k := 2) om, getD_take (l := l) (m := 9) (k := 3) om, getD_take (l := l) (m := 9) (k := 4) om, getD_take (l := l) (m := 9) (k := 5) om, getD_take (l := l) (m := 9) (k := 6) om, getD_take (l := l) (m := 9) (k := 7) om, getD_take (l := l) (m := 9) (k := 8) om]
theorem rs_no1 {l : List Int} (h : l.length ≠ 11) : rowSlotF l = none := if_neg fun hh => h hh.1
theorem rs_no2 {l : List Int} (h : (rowEntF (l.take 9)).isSome = false) : rowSlotF l = none := if_neg fun hh => by
 rw [re_yes (by rw [List.length_take]; omega) (by rw [entOf_take]; exact hh.2.1)] at h
 cases h
theorem rs_no3 {l : List Int} (hl : l.length = 11) (h : l[9] ≠ l[0]) : rowSlotF l = none := if_neg fun hh => h (by have := hh.2.2.1; rwa [getD_at (by omega : 9 < l.length), getD_at (by omega : 0 < l.length)] at this)
theorem rs_no4 {l : List Int} (hl : l.length = 11) (h : l[10] ≠ l[0]) : rowSlotF l = none := if_neg fun hh => h (by have := hh.2.2.2; rwa [getD_at (by omega : 10 < l.length), getD_at (by omega : 0 < l.length)] at this)
theorem rs_part {l : List Int} (hl : l.length = 11) (h2 : l[9] = l[0]) (h3 : l[10] = l[0]) : rowSlotF l = rowEntF (l.take 9) := by
 unfold rowSlotF rowEntF
 rw [entOf_take, getD_at (by omega : 9 < l.length), getD_at (by omega : 10 < l.length), getD_at (by omega : 0 < l.length)]
 have h4 : (l.take 9).length = 9 := by rw [List.length_take]; omega
 simp [hl, h2, h3, h4]
def takeE (b : Book) (s : List Mark) (row : List Int) : Option Entry := match rowSlotF row with
 | some e => if e.index = lastB b + 1 ∧ fitsF b e = true ∧ freshF s e = true then some e else none
 | none => none
def nextE (t : Two) (b : Book) (s : List Mark) : Option Entry := (rightF t (slotF (lastB b + 1))).findSome? (takeE b s)
theorem takeE_some {b : Book} {s : List Mark} {row : List Int} {e : Entry} (h : takeE b s row = some e) : fitsF b e = true ∧ freshF s e = true ∧ rowSlotF row = some e := by
 unfold takeE at h
 split at h
 ·rename_i e' he
  split at h
  ·rename_i h2; cases h; exact ⟨h2.2.1, h2.2.2, he⟩
  ·cases h
 ·cases h
theorem nextE_some {t : Two} {b : Book} {s : List Mark} {e : Entry} (h : nextE t b s = some e) : fitsF b e = true ∧ freshF s e = true := by
 obtain ⟨row, _, h2⟩ := List.exists_of_findSome?_eq_some h
 have := takeE_some h2
 exact ⟨this.1, this.2.1⟩
theorem find_at {α β : Type} {f : α → Option β} {l : List α} {j : Nat} {y : β} (hj : j < l.length) (h : ∀ x ∈ l.take j, f x = none) (h2 : f l[j] = some y) : l.findSome? f = some y := by
 conv => lhs; rw [← List.take_append_drop j l, List.drop_eq_getElem_cons hj]
 rw [List.findSome?_append, List.findSome?_eq_none_iff.2 h, List.findSome?_cons_of_isSome (by rw [h2]; rfl)]
 simp [h2]
theorem find_end {α β : Type} {f : α → Option β} {l : List α} {j : Nat} (hj : ¬ j < l.length) (h : ∀ x ∈ l.take j, f x = none) : l.findSome? f = none := by
 rw [List.take_of_length_le om] at h
 exact List.findSome?_eq_none_iff.2 h
def bookUp (t : Two) (h : Head) : Nat → Book × List Mark
 | 0 => (⟨h.base, h.time, []⟩, h.seen)
 | k + 1 => match nextE t (bookUp t h k).1 (bookUp t h k).2 with
  | some e => (appF (bookUp t h k).1 e, insF (bookUp t h k).2 (eMark e))
  | none => bookUp t h k
def bookInF (t : Two) (h : Head) : Book := if keptOk t && headOk h then (bookUp t h 20).1 else ⟨0, 0, []⟩
theorem bi_no1 {t : Two} {h : Head} (hk : keptOk t = false) : bookInF t h = ⟨0, 0, []⟩ := by simp [bookInF, hk]
theorem bi_no2 {t : Two} {h : Head} (hk : headOk h = false) : bookInF t h = ⟨0, 0, []⟩ := by simp [bookInF, hk]
theorem up_some {t : Two} {h : Head} {k : Nat} {b : Book} {s : List Mark} {e : Entry} (hu : (b, s) = bookUp t h k) (h2 : nextE t b s = some e) : (appF b e, insF s (eMark e)) = bookUp t h (k + 1) := by
 simp only [bookUp, ← hu, h2]
theorem up_stop {t : Two} {h : Head} {k : Nat} (h2 : nextE t (bookUp t h k).1 (bookUp t h k).2 = none) : ∀ j, bookUp t h (k + j) = bookUp t h k
 | 0 => rfl
 | j + 1 => by
  rw [← Nat.add_assoc]
  simp only [bookUp, up_stop h2 j, h2]
theorem bi_yes {t : Two} {h : Head} {k : Nat} {b : Book} {s : List Mark} (h1 : keptOk t = true) (h2 : headOk h = true) (hu : (b, s) = bookUp t h k) (hk : k ≤ 20) (h3 : nextE t b s = none) : bookInF t h = b := by
 have := up_stop (t := t) (h := h) (k := k) (by rw [← hu]; exact h3) (20 - k)
 rw [show k + (20 - k) = 20 by omega, ← hu] at this
 simp [bookInF, h1, h2, this]
theorem book0_ok {h : Head} (hh : headOk h = true) : bookOk ⟨h.base, h.time, []⟩ = true := by
 simp only [headOk, Bool.and_eq_true, Bool.or_eq_true, decide_eq_true_eq] at hh
 obtain ⟨h1, h2, h3, h4, h5, h6⟩ := hh
 simp only [bookOk, h1, h3]
 rcases h4 with h4 | h4
 ·have : ¬ h.base = 0 := by omega
  simp [this, entriesOk]
 ·simp [h4, entriesOk]
theorem up_ok {t : Two} {h : Head} (hh : headOk h = true) : ∀ k, bookOk (bookUp t h k).1 = true ∧ seenOk (bookUp t h k).2 = true ∧ (bookUp t h k).1.entries.length ≤ k
 | 0 => ⟨book0_ok hh, (head_bd hh).2.2.2.2, by simp [bookUp]⟩
 | k + 1 => by
  have ih := up_ok (t := t) hh k
  simp only [bookUp]
  split
  ·rename_i e he
   have h2 := nextE_some he
   refine ⟨app_ok ih.1 h2.1, of_sok (fresh_ok (sok_of ih.2.1) h2.2).1, ?_⟩
   simp only [appF, List.length_append, List.length_singleton]
   omega
  ·exact ⟨ih.1, ih.2.1, by omega⟩
theorem nextE_sync {t : Two} {b : Book} {s : List Mark} : nextE (bothSyncF t) b s = nextE t b s := by unfold nextE; rw [right_sync]
theorem bookUp_sync {t : Two} {h : Head} : ∀ k, bookUp (bothSyncF t) h k = bookUp t h k
 | 0 => rfl
 | k + 1 => by simp only [bookUp, bookUp_sync k, nextE_sync]
theorem bookIn_sync {t : Two} {h : Head} : bookInF (bothSyncF t) h = bookInF t h := by
 unfold bookInF
 rw [kept_sync, bookUp_sync]
theorem list9 {l : List Int} (h : l.length = 9) : ∃ a b c d e f g h i, l = [a, b, c, d, e, f, g, h, i] := by
 match l, h with
 | [a, b, c, d, e, f, g, h, i], _ => exact ⟨a, b, c, d, e, f, g, h, i, rfl⟩
theorem list11 {l : List Int} (h : l.length = 11) : ∃ a b c d e f g h i j k, l = [a, b, c, d, e, f, g, h, i, j, k] := by
 match l, h with
 | [a, b, c, d, e, f, g, h, i, j, k], _ => exact ⟨a, b, c, d, e, f, g, h, i, j, k, rfl⟩
theorem ent9 (x0 x1 x2 x3 x4 x5 x6 x7 x8 : Int) : entOf [x0, x1, x2, x3, x4, x5, x6, x7, x8] = ⟨x0, x1, x2, x3, x4, x5, x6, x7, x8⟩ := rfl
theorem re9_bad {x0 x1 x2 x3 x4 x5 x6 x7 x8 : Int} (h : entryOk ⟨x0, x1, x2, x3, x4, x5, x6, x7, x8⟩ = false) : rowEntF [x0, x1, x2, x3, x4, x5, x6, x7, x8] = none := re_no2 h
theorem re9_op {x0 x1 x2 x3 x4 x5 x6 x7 x8 : Int} (h : opOk x4 x5 x6 x7 x8 = false) : rowEntF [x0, x1, x2, x3, x4, x5, x6, x7, x8] = none := re_no2 (by
 rw [ent9]
 simp [entryOk, h])
theorem re9_yes {x0 x1 x2 x3 x4 x5 x6 x7 x8 : Int} (h : entryOk ⟨x0, x1, x2, x3, x4, x5, x6, x7, x8⟩ = true) : rowEntF [x0, x1, x2, x3, x4, x5, x6, x7, x8] = some ⟨x0, x1, x2, x3, x4, x5, x6, x7, x8⟩ := re_yes rfl h
theorem rs11_no {x0 x1 x2 x3 x4 x5 x6 x7 x8 x9 x10 : Int} (h : rowEntF [x0, x1, x2, x3, x4, x5, x6, x7, x8] = none) : rowSlotF [x0, x1, x2, x3, x4, x5, x6, x7, x8, x9, x10] = none := rs_no2 (by
 show (rowEntF [x0, x1, x2, x3, x4, x5, x6, x7, x8]).isSome = false
 rw [h]; rfl)
theorem rs11_9 {x0 x1 x2 x3 x4 x5 x6 x7 x8 x9 x10 : Int} (h : x9 ≠ x0) : rowSlotF [x0, x1, x2, x3, x4, x5, x6, x7, x8, x9, x10] = none := rs_no3 rfl h
theorem rs11_10 {x0 x1 x2 x3 x4 x5 x6 x7 x8 x9 x10 : Int} (h : x10 ≠ x0) : rowSlotF [x0, x1, x2, x3, x4, x5, x6, x7, x8, x9, x10] = none := rs_no4 rfl h
theorem rs11_yes {x0 x1 x2 x3 x4 x5 x6 x7 x8 x9 x10 : Int} (h : x9 = x0) (h2 : x10 = x0) : rowSlotF [x0, x1, x2, x3, x4, x5, x6, x7, x8, x9, x10] = rowEntF [x0, x1, x2, x3, x4, x5, x6, x7, x8] := rs_part rfl h h2
theorem re_cases (x0 x1 x2 x3 x4 x5 x6 x7 x8 : Int) : rowEntF [x0, x1, x2, x3, x4, x5, x6, x7, x8] = none ∨ rowEntF [x0, x1, x2, x3, x4, x5, x6, x7, x8] = some ⟨x0, x1, x2, x3, x4, x5, x6, x7, x8⟩ := by
 cases h : entryOk ⟨x0, x1, x2, x3, x4, x5, x6, x7, x8⟩
 ·exact .inl (re9_bad h)
 ·exact .inr (re9_yes h)
theorem over_one {l : List Mark} {e : Entry} : seenOverF l [e] = markedF l e := by
 cases h : seenOk l
 ·rw [so1 h, mk_no0 h]
 ·cases hf : freshF l e
  ·rw [mk_no h hf, so3 h]
   simp [overL, hf]
  ·rw [mk_yes h hf, so4 h (by simp)]
   simp [overL, hf]
theorem c_opOf (x4 x5 x6 x7 x8 : Int) : Pure Tryz.prog 117 [one (ints [x4, x5, x6, x7, x8])] [many' [.v (.int .i64 x4), .v (.int .i64 x5), .v (.int .i64 x6), .v (.int .i64 x7), .v (.int .i64 x8)]] := by
 refine pure_intro (N := 19) Tryz.func117 rfl rfl rfl rfl (fun H w => ?_)
 refine sq (rg (evl_e (e_alloc ttOk rfl rfl rfl rfl) (nl (et (sq (ev_drawq [16] mo (rk0 0 rfl (q_move rfl) rfl (rk0 1 rfl (q_ix_map (m := 0) ttOk rfl rfl rfl (by first | omega | rfl) (by simp)) rfl (rk0 2 rfl (q_load ttOk rfl) rfl (rk0 3 rfl (q_move rfl) rfl (rk0 4 rfl (q_ix_map (m := 1) ttOk rfl rfl rfl (by first | omega | rfl) (by simp)) rfl (rk0 5 rfl (q_load ttOk rfl) rfl (rk0 6 rfl (q_move rfl) rfl (rk0 7 rfl (q_ix_map (m := 2) ttOk rfl rfl rfl (by first | omega | rfl) (by simp)) rfl (rk0 8 rfl (q_load ttOk rfl) rfl (rk0 9 rfl (q_move rfl) rfl (rk0 10 rfl (q_ix_map (m := 3) ttOk rfl rfl rfl (by first | omega | rfl) (by simp)) rfl (rk0 11 rfl (q_load ttOk rfl) rfl (rk0 12 rfl (q_move rfl) rfl (rk0 13 rfl (q_ix_map (m := 4) ttOk rfl rfl rfl (by first | omega | rfl) (by simp)) rfl (rk0 14 rfl (q_load ttOk rfl) rfl (rk0 15 rfl (q_build ttOk rfl) rfl (rdk_one 16 kr (rdo_brk rfl rfl trivial (e_store ttOk rfl) (rdb_endq kr (et (ev_ret (ret_pure' ttOk rfl rfl ?_))))))))))))))))))))))))))))
 rfl
theorem c_RowEntry' (l : List Int) : Pure Tryz.prog 80 [one (ints l)] [many' [.v (.int .i64 ((rowEntF l).getD noEntry).index), .v (.int .i64 ((rowEntF l).getD noEntry).time), .v (.int .i64 ((rowEntF l).getD noEntry).client), .v (.int .i64 ((rowEntF l).getD noEntry).seq), .v (.int .i64 ((rowEntF l).getD noEntry).kind), .v (.int .i64 ((rowEntF l).getD noEntry).a), .v (.int .i64 ((rowEntF l).getD noEntry).b), .v (.int .i64 ((rowEntF l).getD noEntry).c), .v (.int .i64 ((rowEntF l).getD noEntry).d)], one' (RC.v (.bool (rowEntF l).isSome))] := by
 refine pure_intro (N := 30) Tryz.func80 rfl rfl rfl rfl (fun H w => ?_)
 refine ev_lenm (t := 0) rfl (fun hL => ?_)
 refine sq (rg (evl_e (e_alloc ttOk rfl rfl rfl rfl) (xs rfl rfl (nl (et (sq (sq (rg (xm rfl rfl (xo (q_len_map ttOk rfl rfl) rfl (xb ttOk rfl rfl (nl (et (ev_cond rfl (fun h1 => ?_) (fun h1 => ?_)))))))))))))))
 ·try have d1 := of_decide_eq_true h1
  refine sq (rg (xo (q_build ttOk rfl) rfl (xst ttOk rfl rfl (xs rfl rfl (nl (et (ev_ret (evr_then (ret_pure' ttOk rfl rfl ?_)))))))))
  first
  | (rw [re_no1 om]; rfl)
  | (rw [re9_bad ‹_›]; rfl)
  | (rw [re9_op ‹_›]; rfl)
  | (rw [re9_yes ‹_›]; rfl)
 ·try have d1 := of_decide_eq_false h1
  refine ev_skip (et (sq ?_))
  obtain ⟨x0, x1, x2, x3, x4, x5, x6, x7, x8, rfl⟩ := list9 (l := l) om
  refine' ev_draw [17] mo ?hdr1 ?kdr1
  case hdr1 =>
   refine rk0 0 rfl (q_move rfl) rfl (rk0 1 rfl (q_ix_map (m := 0) ttOk rfl rfl rfl (by first | omega | rfl) (by simp)) rfl (rk0 2 rfl (q_load ttOk rfl) rfl (rk0 3 rfl (q_move rfl) rfl (rk0 4 rfl (q_ix_map (m := 1) ttOk rfl rfl rfl (by first | omega | rfl) (by simp)) rfl (rk0 5 rfl (q_load ttOk rfl) rfl (rk0 6 rfl (q_move rfl) rfl (rk0 7 rfl (q_ix_map (m := 2) ttOk rfl rfl rfl (by first | omega | rfl) (by simp)) rfl (rk0 8 rfl (q_load ttOk rfl) rfl (rk0 9 rfl (q_move rfl) rfl (rk0 10 rfl (q_ix_map (m := 3) ttOk rfl rfl rfl (by first | omega | rfl) (by simp)) rfl (rk0 11 rfl (q_load ttOk rfl) rfl (rk0 12 rfl (q_move rfl) rfl (rk0 13 rfl (q_sl_from_map (k := 4) ttOk rfl rfl rfl (by first | omega | rfl) (by simp)) rfl (rdk_two 14 16 kr ?_ ?_))))))))))))))
   ·refine rdo_call (nm := 23) rfl trivial (cf rfl) (c_opOf x4 x5 x6 x7 x8) (rs_of rfl) rfl rfl rfl (rk0 15 rfl (q_build ttOk rfl) rfl (rdk_one 16 kr (rdo_new rfl trivial (e_alloc ttOk rfl rfl rfl rfl) (rdk_one 17 kr (rdo_brk rfl rfl trivial (e_store ttOk rfl) ?_)))))
    exact rdb_fin kr
   ·refine rdo_new rfl trivial (e_alloc ttOk rfl rfl rfl rfl) (rdk_one 14 kr (rdo_call (nm := 23) rfl trivial (cf rfl) (c_opOf x4 x5 x6 x7 x8) (rs_of rfl) rfl rfl rfl (rk0 15 rfl (q_build ttOk rfl) rfl (rdk_one 17 kr (rdo_brk rfl rfl trivial (e_store ttOk rfl) ?_)))))
    exact rdb_le [] kr lei
  refine et (sq (sq (rg (xl ttOk rfl rfl (evl_call (nm := 26) (cf rfl) (c_EntryOk' ⟨x0, x1, x2, x3, x4, x5, x6, x7, x8⟩) (rs_of rfl) rfl rfl rfl (xo (q_not rfl) rfl (nl (et (ev_cond_n rfl (fun h2 => ?_) (fun h2 => ?_))))))))))
  ·try have d2 := of_decide_eq_false h2
   refine ev_pr [2, 3, 4, 28, 29] rfl (sq (rg (xo (q_build ttOk rfl) rfl (xst ttOk rfl rfl (xs rfl rfl (nl (et (ev_ret (evr_then (ret_pure' ttOk rfl rfl ?_))))))))))
   first
   | (rw [re_no1 om]; rfl)
   | (rw [re9_bad ‹_›]; rfl)
   | (rw [re9_op ‹_›]; rfl)
   | (rw [re9_yes ‹_›]; rfl)
  ·try have d2 := of_decide_eq_true h2
   refine ev_skip (et (ev_pr [2, 3, 4, 29] rfl (sq (rg (xl ttOk rfl rfl (xst ttOk rfl rfl (xs rfl rfl (nl (et (ev_ret (ret_pure' ttOk rfl rfl ?_)))))))))))
   first
   | (rw [re_no1 om]; rfl)
   | (rw [re9_bad ‹_›]; rfl)
   | (rw [re9_op ‹_›]; rfl)
   | (rw [re9_yes ‹_›]; rfl)
theorem c_RowSlot' (l : List Int) : Pure Tryz.prog 51 [one (ints l)] [many' [.v (.int .i64 ((rowSlotF l).getD noEntry).index), .v (.int .i64 ((rowSlotF l).getD noEntry).time), .v (.int .i64 ((rowSlotF l).getD noEntry).client), .v (.int .i64 ((rowSlotF l).getD noEntry).seq), .v (.int .i64 ((rowSlotF l).getD noEntry).kind), .v (.int .i64 ((rowSlotF l).getD noEntry).a), .v (.int .i64 ((rowSlotF l).getD noEntry).b), .v (.int .i64 ((rowSlotF l).getD noEntry).c), .v (.int .i64 ((rowSlotF l).getD noEntry).d)], one' (RC.v (.bool (rowSlotF l).isSome))] := by
 refine pure_intro (N := 36) Tryz.func51 rfl rfl rfl rfl (fun H w => ?_)
 refine ev_lenm (t := 0) rfl (fun hL => ?_)
 refine sq (rg (evl_e (e_alloc ttOk rfl rfl rfl rfl) (xs rfl rfl (nl (et (sq (sq (rg (xm rfl rfl (xo (q_len_map ttOk rfl rfl) rfl (xb ttOk rfl rfl (nl (et (ev_cond rfl (fun h1 => ?_) (fun h1 => ?_)))))))))))))))
 try have d1 := of_decide_eq_true h1
 refine sq (rg (xo (q_build ttOk rfl) rfl (xst ttOk rfl rfl (xs rfl rfl (nl (et (ev_ret (evr_then (ret_pure' ttOk rfl rfl ?_)))))))))
 rotate_left
 try have d1 := of_decide_eq_false h1
 refine ev_skip (et (sq ?_))
 obtain ⟨x0, x1, x2, x3, x4, x5, x6, x7, x8, x9, x10, rfl⟩ := list11 (l := l) om
 refine rg (xm rfl rfl (xo (q_sl_to_map (k := 9) ttOk rfl rfl rfl (by first | omega | rfl) (by simp)) rfl (evl_call (nm := 13) (cf rfl) (c_RowEntry' [x0, x1, x2, x3, x4, x5, x6, x7, x8]) (rs_of rfl) rfl rfl rfl (xm rfl rfl (xo (q_ext rfl) rfl (xo (q_ext rfl) rfl (evl_e (e_alloc ttOk rfl rfl rfl rfl) (xst ttOk rfl rfl (xs rfl rfl (nl (et ?_)))))))))))
 rcases re_cases x0 x1 x2 x3 x4 x5 x6 x7 x8 with hre | hre <;> rw [hre]
 refine sq (sq (ev_drawq [] mo (rk0 0 rfl (q_move rfl) rfl (rk0 1 rfl (q_not rfl) rfl (rk0 2 rfl (q_move rfl) rfl (rdk_partn (t := 18) rfl (fun h2 => ?_) (fun h2 => ?_)))))))
 try have d2 := of_decide_eq_false h2
 refine rdk_skip 3 rfl kr ⟨_, rfl, .inl ⟨_, rfl, (nt h2)⟩⟩ rfl (rdk_skip 4 rfl kr ⟨_, rfl, .inl ⟨_, rfl, (nt h2)⟩⟩ rfl (rdk_skip 5 rfl kr ⟨_, rfl, .inl ⟨_, rfl, (nt h2)⟩⟩ rfl (rdk_skip 6 rfl kr ⟨_, rfl, .inl ⟨_, rfl, (nt h2)⟩⟩ rfl (rdk_skip 7 rfl kr ⟨_, rfl, .inl ⟨_, rfl, (nt h2)⟩⟩ rfl (rdk_skip 8 rfl kr ⟨_, rfl, .inl ⟨_, rfl, (nt h2)⟩⟩ rfl (rk0 9 rfl (q_pick_t rfl (nt h2) rfl) rfl (rk0 10 rfl (q_move rfl) rfl (rks 11 rfl rfl rfl rfl rfl (rks 12 rfl rfl rfl rfl rfl (rks 13 rfl rfl rfl rfl rfl (rks 14 rfl rfl rfl rfl rfl (rks 15 rfl rfl rfl rfl rfl (rks 16 rfl rfl rfl rfl rfl (rk0 17 rfl (q_pick_t rfl rfl rfl) rfl (rdk_endq kr (et (ev_cond_kt rfl rfl (sq (rg (xo (q_build ttOk rfl) rfl (xst ttOk rfl rfl (xs rfl rfl (nl (et (ev_ret (evr_then (ret_pure' ttOk rfl rfl ?_)))))))))))))))))))))))))))
 rotate_left
 try have d2 := of_decide_eq_true h2
 refine rdk_take 3 rfl kr ⟨_, _, rfl, rfl, (nf h2)⟩ (q_move rfl) rfl (rdk_take 4 rfl kr ⟨_, _, rfl, rfl, (nf h2)⟩ (q_ix_map (m := 9) ttOk rfl rfl rfl (by first | omega | rfl) (by simp)) rfl (rdk_take 5 rfl kr ⟨_, _, rfl, rfl, (nf h2)⟩ (q_load ttOk rfl) rfl (rdk_take 6 rfl kr ⟨_, _, rfl, rfl, (nf h2)⟩ (q_fieldAddr ttOk rfl) rfl (rdk_take 7 rfl kr ⟨_, _, rfl, rfl, (nf h2)⟩ (q_load ttOk rfl) rfl (rdk_take 8 rfl kr ⟨_, _, rfl, rfl, (nf h2)⟩ (q_bin ttOk rfl) rfl (rk0 9 rfl (q_pick_f rfl (nf h2) rfl) rfl (rk0 10 rfl (q_move rfl) rfl (rdk_part (t := 26) rfl (fun h3 => ?_) (fun h3 => ?_)))))))))
 try have d3 := of_decide_eq_true h3
 refine rks 11 rfl rfl rfl h3 rfl (rks 12 rfl rfl rfl h3 rfl (rks 13 rfl rfl rfl h3 rfl (rks 14 rfl rfl rfl h3 rfl (rks 15 rfl rfl rfl h3 rfl (rks 16 rfl rfl rfl h3 rfl (rk0 17 rfl (q_pick_t rfl h3 rfl) rfl (rdk_endq kr (et (ev_cond_kt rfl rfl (sq (rg (xo (q_build ttOk rfl) rfl (xst ttOk rfl rfl (xs rfl rfl (nl (et (ev_ret (evr_then (ret_pure' ttOk rfl rfl ?_)))))))))))))))))))
 rotate_left
 try have d3 := of_decide_eq_false h3
 refine rkt 11 rfl rfl rfl h3 (q_move rfl) rfl (rkt 12 rfl rfl rfl h3 (q_ix_map (m := 10) ttOk rfl rfl rfl (by first | omega | rfl) (by simp)) rfl (rkt 13 rfl rfl rfl h3 (q_load ttOk rfl) rfl (rkt 14 rfl rfl rfl h3 (q_fieldAddr ttOk rfl) rfl (rkt 15 rfl rfl rfl h3 (q_load ttOk rfl) rfl (rkt 16 rfl rfl rfl h3 (q_bin ttOk rfl) rfl (rk0 17 rfl (q_pick_f rfl h3 rfl) rfl (rdk_endq kr (et (ev_cond rfl (fun h4 => ?_) (fun h4 => ?_))))))))))
 try have d4 := of_decide_eq_true h4
 refine sq (rg (xo (q_build ttOk rfl) rfl (xst ttOk rfl rfl (xs rfl rfl (nl (et (ev_ret (evr_then (ret_pure' ttOk rfl rfl ?_)))))))))
 rotate_left
 try have d4 := of_decide_eq_false h4
 refine ev_skip (et (sq (rg (xl ttOk rfl rfl (xst ttOk rfl rfl (xs rfl rfl (nl (et (ev_ret (ret_pure' ttOk rfl rfl ?_))))))))))
 rotate_left
 refine sq (sq (ev_drawq [] mo (rk0 0 rfl (q_move rfl) rfl (rk0 1 rfl (q_not rfl) rfl (rk0 2 rfl (q_move rfl) rfl (rdk_partn (t := 18) rfl (fun h5 => ?_) (fun h5 => ?_)))))))
 try have d5 := of_decide_eq_false h5
 refine rdk_skip 3 rfl kr ⟨_, rfl, .inl ⟨_, rfl, (nt h5)⟩⟩ rfl (rdk_skip 4 rfl kr ⟨_, rfl, .inl ⟨_, rfl, (nt h5)⟩⟩ rfl (rdk_skip 5 rfl kr ⟨_, rfl, .inl ⟨_, rfl, (nt h5)⟩⟩ rfl (rdk_skip 6 rfl kr ⟨_, rfl, .inl ⟨_, rfl, (nt h5)⟩⟩ rfl (rdk_skip 7 rfl kr ⟨_, rfl, .inl ⟨_, rfl, (nt h5)⟩⟩ rfl (rdk_skip 8 rfl kr ⟨_, rfl, .inl ⟨_, rfl, (nt h5)⟩⟩ rfl (rk0 9 rfl (q_pick_t rfl (nt h5) rfl) rfl (rk0 10 rfl (q_move rfl) rfl (rks 11 rfl rfl rfl rfl rfl (rks 12 rfl rfl rfl rfl rfl (rks 13 rfl rfl rfl rfl rfl (rks 14 rfl rfl rfl rfl rfl (rks 15 rfl rfl rfl rfl rfl (rks 16 rfl rfl rfl rfl rfl (rk0 17 rfl (q_pick_t rfl rfl rfl) rfl (rdk_endq kr (et (ev_cond_kt rfl rfl (sq (rg (xo (q_build ttOk rfl) rfl (xst ttOk rfl rfl (xs rfl rfl (nl (et (ev_ret (evr_then (ret_pure' ttOk rfl rfl ?_)))))))))))))))))))))))))))
 rotate_left
 try have d5 := of_decide_eq_true h5
 refine rdk_take 3 rfl kr ⟨_, _, rfl, rfl, (nf h5)⟩ (q_move rfl) rfl (rdk_take 4 rfl kr ⟨_, _, rfl, rfl, (nf h5)⟩ (q_ix_map (m := 9) ttOk rfl rfl rfl (by first | omega | rfl) (by simp)) rfl (rdk_take 5 rfl kr ⟨_, _, rfl, rfl, (nf h5)⟩ (q_load ttOk rfl) rfl (rdk_take 6 rfl kr ⟨_, _, rfl, rfl, (nf h5)⟩ (q_fieldAddr ttOk rfl) rfl (rdk_take 7 rfl kr ⟨_, _, rfl, rfl, (nf h5)⟩ (q_load ttOk rfl) rfl (rdk_take 8 rfl kr ⟨_, _, rfl, rfl, (nf h5)⟩ (q_bin ttOk rfl) rfl (rk0 9 rfl (q_pick_f rfl (nf h5) rfl) rfl (rk0 10 rfl (q_move rfl) rfl (rdk_part (t := 26) rfl (fun h6 => ?_) (fun h6 => ?_)))))))))
 try have d6 := of_decide_eq_true h6
 refine rks 11 rfl rfl rfl h6 rfl (rks 12 rfl rfl rfl h6 rfl (rks 13 rfl rfl rfl h6 rfl (rks 14 rfl rfl rfl h6 rfl (rks 15 rfl rfl rfl h6 rfl (rks 16 rfl rfl rfl h6 rfl (rk0 17 rfl (q_pick_t rfl h6 rfl) rfl (rdk_endq kr (et (ev_cond_kt rfl rfl (sq (rg (xo (q_build ttOk rfl) rfl (xst ttOk rfl rfl (xs rfl rfl (nl (et (ev_ret (evr_then (ret_pure' ttOk rfl rfl ?_)))))))))))))))))))
 rotate_left
 try have d6 := of_decide_eq_false h6
 refine rkt 11 rfl rfl rfl h6 (q_move rfl) rfl (rkt 12 rfl rfl rfl h6 (q_ix_map (m := 10) ttOk rfl rfl rfl (by first | omega | rfl) (by simp)) rfl (rkt 13 rfl rfl rfl h6 (q_load ttOk rfl) rfl (rkt 14 rfl rfl rfl h6 (q_fieldAddr ttOk rfl) rfl (rkt 15 rfl rfl rfl h6 (q_load ttOk rfl) rfl (rkt 16 rfl rfl rfl h6 (q_bin ttOk rfl) rfl (rk0 17 rfl (q_pick_f rfl h6 rfl) rfl (rdk_endq kr (et (ev_cond rfl (fun h7 => ?_) (fun h7 => ?_))))))))))
 try have d7 := of_decide_eq_true h7
 refine sq (rg (xo (q_build ttOk rfl) rfl (xst ttOk rfl rfl (xs rfl rfl (nl (et (ev_ret (evr_then (ret_pure' ttOk rfl rfl ?_)))))))))
 rotate_left
 try have d7 := of_decide_eq_false h7
 refine ev_skip (et (sq (rg (xl ttOk rfl rfl (xst ttOk rfl rfl (xs rfl rfl (nl (et (ev_ret (ret_pure' ttOk rfl rfl ?_))))))))))
 rotate_left
 all_goals
  first
  | (rw [rs_no1 om]; rfl)
  | (rw [rs11_no hre]; rfl)
  | (rw [rs11_9 (x0 := x0) (x9 := x9) ‹_›] <;> rfl)
  | (rw [rs11_10 (x0 := x0) (x10 := x10) ‹_›] <;> rfl)
  | (rw [rs11_yes (x0 := x0) (x9 := x9) (x10 := x10) (Decidable.not_not.1 ‹_›) (Decidable.not_not.1 ‹_›), hre] <;> rfl)
  | (exfalso; simp_all; done)
theorem c_SlotOf (x : Int) : Pure Tryz.prog 134 [one (iC x)] (iR (if indexOk x then slotF x else -1)) := by
 refine pure_intro (N := 9) Tryz.func134 rfl rfl rfl rfl (fun H w => ?_)
 refine sq (rg (xs rfl rfl (nl (et (sq (sq (rg (xm rfl rfl (evl_call (nm := 4) (cf rfl) (c_indexOk _) (rs_of rfl) rfl rfl rfl (xo (q_not rfl) rfl (nl (et (ev_cond_n rfl (fun h1 => ?_) (fun h1 => ?_))))))))))))))
 ·refine sq (rg (xs rfl rfl (nl (et (ev_ret (evr_then (ret_pure' ttOk rfl rfl ?_)))))))
  first
  | (rw [show indexOk x = false by assumption]; rfl)
  | (rw [show indexOk x = true by assumption]; rfl)
 ·have hx := inB_iff.1 (show inB x 1 2000 = true by assumption)
  refine ev_skip (et (sq (rg (xm rfl rfl (xo (q_rem_pos rfl rfl om) rfl (xa rfl rfl rfl om rfl (xs rfl rfl (nl (et (ev_ret (ret_pure' ttOk rfl rfl ?_)))))))))))
  first
  | (rw [show indexOk x = false by assumption]; rfl)
  | (rw [show indexOk x = true by assumption]; rfl)
theorem c_slotOf (x : Int) (hx : 0 ≤ x ∧ x ≤ 100000) : Pure Tryz.prog 24 [one (iC x)] (iR (slotF x)) := by
 refine pure_intro (N := 6) Tryz.func24 rfl rfl rfl rfl (fun H w => ?_)
 refine sq (rg (xs rfl rfl (nl (et (sq (rg (xm rfl rfl (xo (q_rem_pos rfl rfl om) rfl (xa rfl rfl rfl om rfl (xs rfl rfl (nl (et (ev_ret (ret_pure' ttOk rfl rfl ?_))))))))))))))
 rfl
theorem c_timeOf (b : Book) (hb : bookOk b = true) : Pure Tryz.prog 81 [many (bookC b)] (iR (timeB b)) := by
 refine pure_intro (N := 18) Tryz.func81 rfl rfl rfl rfl (fun H w => ?_)
 have hbd := book_bd hb
 refine sq (rg (evl_e (e_box rfl rfl rfl rfl) (xs rfl rfl (nl (et (sq (sq (rg (xf ttOk rfl rfl (xl ttOk rfl rfl (xo (q_len_map ttOk rfl rfl) rfl (xb ttOk rfl rfl (nl (et (ev_cond rfl (fun h1 => ?_) (fun h1 => ?_))))))))))))))))
 ·try have d1 := of_decide_eq_true h1
  refine sq (rg (xf ttOk rfl rfl (xl ttOk rfl rfl (xs rfl rfl (nl (et (ev_ret (evr_then (ret_pure' ttOk rfl rfl ?_)))))))))
  rw [timeB_nil om]
 ·try have d1 := of_decide_eq_false h1
  refine ev_skip (et (sq ?_))
  obtain ⟨m, hm⟩ : ∃ m, b.entries.length = m + 1 := ⟨b.entries.length - 1, by omega⟩
  refine rg (xf ttOk rfl rfl (xl ttOk rfl rfl (xf ttOk rfl rfl (xl ttOk rfl rfl (xo (q_len_map ttOk rfl rfl) rfl (xa rfl rfl rfl om rfl (xo (q_ix_map (m := m) ttOk rfl rfl rfl om om) rfl (xf ttOk rfl rfl (xl ttOk rfl rfl (xs rfl rfl (nl (et (ev_ret (ret_pure' ttOk rfl rfl ?_))))))))))))))
  rw [timeB_last hm]
theorem c_fits (b : Book) (e : Entry) (hb : bookOk b = true) : Pure Tryz.prog 52 [many (bookC b), many (entryC e)] (bR (fitsF b e)) := by
 refine pure_intro (N := 28) Tryz.func52 rfl rfl rfl rfl (fun H w => ?_)
 have hbd := book_bd hb
 have hla : lastB b = b.base + b.entries.length := rfl
 refine sq (rg (evl_e (e_box rfl rfl rfl rfl) (evl_e (e_box rfl rfl rfl rfl) (xs rfl rfl (nl (et (sq (ev_drawq [] mo (rk0 0 rfl (q_load ttOk rfl) rfl (rdk_one 1 kr (rdo_call (nm := 6) rfl trivial (cf rfl) (c_EntryOk' e) (rs_of rfl) rfl rfl rfl (rk0 2 rfl (q_move rfl) rfl (rdk_part (t := 7) rfl (fun h1 => ?_) (fun h1 => ?_))))))))))))))
 ·refine rkt 3 rfl rfl rfl h1 (q_fieldAddr ttOk rfl) rfl (rkt 4 rfl rfl rfl h1 (q_load ttOk rfl) rfl (rkt 5 rfl rfl rfl h1 (q_load ttOk rfl) rfl (rdk_one 6 kr (rdo_call (nm := 11) rfl ⟨_, _, rfl, rfl, h1⟩ (cf rfl) (c_lastOf b hb) (rs_of rfl) rfl rfl rfl (rkt 7 rfl rfl rfl h1 (q_ar rfl rfl rfl om) rfl (rkt 8 rfl rfl rfl h1 (q_bin ttOk rfl) rfl (rk0 9 rfl (q_pick_t rfl h1 rfl) rfl (rk0 10 rfl (q_move rfl) rfl (rdk_part (t := 15) rfl (fun h2 => ?_) (fun h2 => ?_))))))))))
  ·refine rkt 11 rfl rfl rfl h2 (q_fieldAddr ttOk rfl) rfl (rkt 12 rfl rfl rfl h2 (q_load ttOk rfl) rfl (rkt 13 rfl rfl rfl h2 (q_load ttOk rfl) rfl (rdk_one 14 kr (rdo_call (nm := 19) rfl ⟨_, _, rfl, rfl, h2⟩ (cf rfl) (c_timeOf b hb) (rs_of rfl) rfl rfl rfl (rkt 15 rfl rfl rfl h2 (q_bin ttOk rfl) rfl (rk0 16 rfl (q_pick_t rfl h2 rfl) rfl (rk0 17 rfl (q_move rfl) rfl (rdk_part (t := 22) rfl (fun h3 => ?_) (fun h3 => ?_)))))))))
   ·refine rkt 18 rfl rfl rfl h3 (q_fieldAddr ttOk rfl) rfl (rkt 19 rfl rfl rfl h3 (q_load ttOk rfl) rfl (rkt 20 rfl rfl rfl h3 (q_len_map ttOk rfl rfl) rfl (rkt 21 rfl rfl rfl h3 (q_bin ttOk rfl) rfl (rk0 22 rfl (q_pick_t rfl h3 rfl) rfl (rk0 23 rfl (q_assign rfl) rfl (rdk_endq kr (et (ev_ret (ret_pure' ttOk rfl rfl (congrArg bR (?_ : _ = _)))))))))))
    simp_all [fitsF] <;> (intros; omega)
   ·refine rks 18 rfl rfl rfl h3 rfl (rks 19 rfl rfl rfl h3 rfl (rks 20 rfl rfl rfl h3 rfl (rks 21 rfl rfl rfl h3 rfl (rk0 22 rfl (q_pick_f rfl h3 rfl) rfl (rk0 23 rfl (q_assign rfl) rfl (rdk_endq kr (et (ev_ret (ret_pure' ttOk rfl rfl (congrArg bR (?_ : _ = _)))))))))))
    simp_all [fitsF] <;> (intros; omega)
  ·refine rks 11 rfl rfl rfl h2 rfl (rks 12 rfl rfl rfl h2 rfl (rks 13 rfl rfl rfl h2 rfl (rks 14 rfl rfl rfl h2 rfl (rks 15 rfl rfl rfl h2 rfl (rk0 16 rfl (q_pick_f rfl h2 rfl) rfl (rk0 17 rfl (q_move rfl) rfl (rks 18 rfl rfl rfl rfl rfl (rks 19 rfl rfl rfl rfl rfl (rks 20 rfl rfl rfl rfl rfl (rks 21 rfl rfl rfl rfl rfl (rk0 22 rfl (q_pick_f rfl rfl rfl) rfl (rk0 23 rfl (q_assign rfl) rfl (rdk_endq kr (et (ev_ret (ret_pure' ttOk rfl rfl (congrArg bR (?_ : _ = _))))))))))))))))))
   simp_all [fitsF] <;> (intros; omega)
 ·refine rks 3 rfl rfl rfl h1 rfl (rks 4 rfl rfl rfl h1 rfl (rks 5 rfl rfl rfl h1 rfl (rks 6 rfl rfl rfl h1 rfl (rks 7 rfl rfl rfl h1 rfl (rks 8 rfl rfl rfl h1 rfl (rk0 9 rfl (q_pick_f rfl h1 rfl) rfl (rk0 10 rfl (q_move rfl) rfl (rks 11 rfl rfl rfl rfl rfl (rks 12 rfl rfl rfl rfl rfl (rks 13 rfl rfl rfl rfl rfl (rks 14 rfl rfl rfl rfl rfl (rks 15 rfl rfl rfl rfl rfl (rk0 16 rfl (q_pick_f rfl rfl rfl) rfl (rk0 17 rfl (q_move rfl) rfl (rks 18 rfl rfl rfl rfl rfl (rks 19 rfl rfl rfl rfl rfl (rks 20 rfl rfl rfl rfl rfl (rks 21 rfl rfl rfl rfl rfl (rk0 22 rfl (q_pick_f rfl rfl rfl) rfl (rk0 23 rfl (q_assign rfl) rfl (rdk_endq kr (et (ev_ret (ret_pure' ttOk rfl rfl (congrArg bR (?_ : _ = _))))))))))))))))))))))))))
  simp_all [fitsF] <;> (intros; omega)
theorem c_Marked' (l : List Mark) (e : Entry) : Pure Tryz.prog 53 [one (marks l), many (entryC e)] [one' (marksR (markedF l e).1), one' (RC.v (.bool (markedF l e).2))] := by
 refine pure_intro (N := 12) Tryz.func53 rfl rfl rfl rfl (fun H w => ?_)
 refine sq (rg (evl_e (e_box rfl rfl rfl rfl) (xs rfl rfl (xs rfl rfl (nl (et (sq (rg (xm rfl rfl (xl ttOk rfl rfl (evl_e (e_lit ttOk rfl rfl rfl) (evl_call (nm := 9) (cf rfl) (c_SeenOver' l [e]) (rs_of rfl) rfl rfl rfl (xo (q_ext rfl) rfl (xo (q_ext rfl) rfl (xs rfl rfl (xs rfl rfl (nl (et (ev_ret (ret_pure' ttOk rfl rfl ?_))))))))))))))))))))
 rw [← over_one]
end Go.Proofs.YtahkjonokeifmaaGreat
