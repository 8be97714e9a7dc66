/- Walks of functions of the program, printed by a program of the prover. -/
import Derived.Test.YtahkjonokeifmaaGreatRaF48
import Derived.Test.YtahkjonokeifmaaGreatRaVDB
namespace Go.Proofs.YtahkjonokeifmaaGreat
open Go.ChangeShapes Go.WideShapes Go.ChangeAt Go.RowKit
set_option linter.unusedVariables false
set_option linter.unusedSimpArgs false
set_option maxHeartbeats 1000000
set_option maxRecDepth 100000
attribute [local irreducible] EvL Ev EvE Quiet Eff Pure RDk RDb RDo
theorem none_of {α : Type} {o : Option α} (h : o.isSome = false) : o = none := by
 cases o
 ·rfl
 ·cases h
theorem some_of {α : Type} {o : Option α} {d : α} (h : o.isSome = true) : o = some (o.getD d) := by
 cases o
 ·cases h
 ·rfl
theorem book_last {b : Book} (hb : bookOk b = true) : 0 ≤ lastB b ∧ lastB b ≤ 2020 := by
 have hbd := book_bd hb
 unfold lastB
 omega
section
variable {b : Book} {s : List Mark} {r : List Int}
theorem tk_no1 (h : (rowSlotF r).isSome = false) : takeE b s r = none := by unfold takeE; rw [none_of h]
theorem tk_is (h : (rowSlotF r).isSome = true) : takeE b s r = if ((rowSlotF r).getD noEntry).index = lastB b + 1 ∧ fitsF b ((rowSlotF r).getD noEntry) = true ∧ freshF s ((rowSlotF r).getD noEntry) = true then some ((rowSlotF r).getD noEntry) else none := by
 unfold takeE
 cases hr : rowSlotF r with
 | none => rw [hr] at h; cases h
 | some e => rfl
theorem tk_not (h : ¬ (((rowSlotF r).getD noEntry).index = lastB b + 1 ∧ fitsF b ((rowSlotF r).getD noEntry) = true ∧ freshF s ((rowSlotF r).getD noEntry) = true)) : takeE b s r = none := by
 cases h1 : (rowSlotF r).isSome
 ·exact tk_no1 h1
 ·rw [tk_is h1, if_neg h]
theorem tk_no2 (h : ((rowSlotF r).getD noEntry).index ≠ lastB b + 1) : takeE b s r = none := tk_not fun hh => h hh.1
theorem tk_no4 (hs : seenOk s = true) (h : (markedF s ((rowSlotF r).getD noEntry)).2 = false) : takeE b s r = none := tk_not fun hh => by rw [marked_snd hs, hh.2.2] at h; cases h
theorem tk_no5 (h : fitsF b ((rowSlotF r).getD noEntry) = false) : takeE b s r = none := tk_not fun hh => by rw [hh.2.1] at h; cases h
end
theorem up_next {t : Two} {h : Head} {k : Nat} {b : Book} {s : List Mark} (hb : bookOk b = true) (hs : seenOk s = true) (hu : (b, s) = bookUp t h k) (hn : (nextE t b s).isSome = true) : appendedF b ((nextE t b s).getD noEntry) = (appF b ((nextE t b s).getD noEntry), true) ∧ (appF b ((nextE t b s).getD noEntry), (markedF s ((nextE t b s).getD noEntry)).1) = bookUp t h (k + 1) := by
 have h1 := some_of (d := noEntry) hn
 have h2 := nextE_some h1
 exact ⟨apd_yes hb h2.1, by rw [mk_yes hs h2.2]; exact up_some hu h1⟩
def clF (b : Book) (s : List Mark) (i : Int) (r : List Int) : Entry × Bool := if (rowSlotF r).isSome && (decide (((rowSlotF r).getD noEntry).index = i) && fitsF b ((rowSlotF r).getD noEntry)) then ((rowSlotF r).getD noEntry, (markedF s ((rowSlotF r).getD noEntry)).2) else (noEntry, false)
section
variable {b : Book} {s : List Mark} {r : List Int} {i : Int}
theorem cl_no1 (h : (rowSlotF r).isSome = false) : clF b s i r = (noEntry, false) := by simp [clF, h]
theorem cl_no2 (h : ((rowSlotF r).getD noEntry).index ≠ i) : clF b s i r = (noEntry, false) := by simp [clF, h]
theorem cl_no3 (h : fitsF b ((rowSlotF r).getD noEntry) = false) : clF b s i r = (noEntry, false) := by simp [clF, h]
theorem cl_yes (h1 : (rowSlotF r).isSome = true) (h2 : ((rowSlotF r).getD noEntry).index = i) (h3 : fitsF b ((rowSlotF r).getD noEntry) = true) : clF b s i r = ((rowSlotF r).getD noEntry, (markedF s ((rowSlotF r).getD noEntry)).2) := by simp [clF, h1, h2, h3]
end
def pickG (g : List Int → Entry × Bool) (r : List Int) : Option Entry := if (g r).2 = true then some (g r).1 else none
theorem pk_no {g : List Int → Entry × Bool} {r : List Int} (h : (g r).2 = false) : pickG g r = none := by simp [pickG, h]
theorem pk_yes {g : List Int → Entry × Bool} {r : List Int} (h : (g r).2 = true) : pickG g r = some (g r).1 := by simp [pickG, h]
theorem pick_eq {b : Book} {s : List Mark} (hs : seenOk s = true) : pickG (clF b s (lastB b + 1)) = takeE b s := funext fun r => by
 cases h1 : (rowSlotF r).isSome
 ·rw [tk_no1 h1, pk_no (by rw [cl_no1 h1])]
 ·by_cases h2 : ((rowSlotF r).getD noEntry).index = lastB b + 1
  ·cases h3 : fitsF b ((rowSlotF r).getD noEntry)
   ·rw [tk_no5 h3, pk_no (by rw [cl_no3 h3])]
   ·have e := cl_yes (s := s) h1 h2 h3
    cases h4 : (markedF s ((rowSlotF r).getD noEntry)).2
    ·rw [tk_no4 hs h4, pk_no (by rw [e]; exact h4)]
    ·rw [pk_yes (by rw [e]; exact h4), e, tk_is h1, if_pos ⟨h2, h3, by rw [← marked_snd hs]; exact h4⟩]
  ·rw [tk_no2 h2, pk_no (by rw [cl_no2 h2])]
def seenA : Nat → List Mark → AC
 | 0, s => .c (marks s)
 | _ + 1, _ => .rt 102
def seenR : Nat → List Mark → List (Nat × Nat × Nat × List (List C))
 | 0, _ => []
 | _ + 1, s => [(102, 76, 3, s.map markC)]
theorem c_BookIn1 (b : Book) (s : List Mark) (i : Int) (hb : bookOk b = true) (r : List Int) : CFn Tryz.prog 50 [one (ints r)] [[iC i], bookC b, [marks s]] [many' [.v (.int .i64 ((clF b s i r).1).index), .v (.int .i64 ((clF b s i r).1).time), .v (.int .i64 ((clF b s i r).1).client), .v (.int .i64 ((clF b s i r).1).seq), .v (.int .i64 ((clF b s i r).1).kind), .v (.int .i64 ((clF b s i r).1).a), .v (.int .i64 ((clF b s i r).1).b), .v (.int .i64 ((clF b s i r).1).c), .v (.int .i64 ((clF b s i r).1).d)], one' (RC.v (.bool (clF b s i r).2))] := by
 refine cfn_intro (N := 39) Tryz.func50 rfl rfl rfl rfl rfl (fun H w => ?_)
 refine sq (rg (evl_e (e_alloc ttOk rfl rfl rfl rfl) (xs rfl rfl (nl (et (sq (rg (xm rfl rfl (evl_call (nm := 13) (cf rfl) (c_RowSlot' r) (rs_of rfl) rfl rfl rfl (xm rfl rfl (xo (q_ext rfl) rfl (xo (q_ext rfl) rfl (evl_e (e_alloc ttOk rfl rfl rfl rfl) (xst ttOk rfl rfl (xs rfl rfl (nl (et (sq (sq (rg (xm rfl rfl (xo (q_not rfl) rfl (xm rfl rfl (evl_partn rfl rfl (fun h1 => ?_) (fun h1 => ?_)))))))))))))))))))))))))
 ·try have d1 := of_decide_eq_false h1
  refine gn (nt h1) rfl rfl rfl (gn (nt h1) rfl rfl rfl (gn (nt h1) rfl rfl rfl (gn (nt h1) rfl rfl rfl (xo (q_pick_t rfl (nt h1) rfl) rfl (xm rfl rfl (gn rfl rfl rfl rfl (gn rfl rfl rfl rfl (gn rfl rfl rfl rfl (gn rfl rfl rfl rfl (xo (q_pick_t rfl rfl rfl) rfl (nl (et (ev_cond_kt rfl rfl (sq (rg (xo (q_build ttOk rfl) rfl (xst ttOk rfl rfl (xs rfl rfl (nl (et (ev_ret (evr_then (ret_pure' ttOk rfl rfl ?_)))))))))))))))))))))))
  first
  | (rw [cl_no1 ‹_›] <;> rfl)
  | (rw [cl_no2 ‹_›] <;> rfl)
  | (rw [cl_no3 ‹_›] <;> rfl)
  | (rw [cl_yes ‹_› (Decidable.not_not.1 ‹_›) ‹_›] <;> rfl)
 ·try have d1 := of_decide_eq_true h1
  refine go (nf h1) rfl rfl (q_fieldAddr ttOk rfl) rfl (go (nf h1) rfl rfl (q_load ttOk rfl) rfl (go (nf h1) rfl rfl (q_load ttOk rfl) rfl (go (nf h1) rfl rfl (q_bin ttOk rfl) rfl (xo (q_pick_f rfl (nf h1) rfl) rfl (xm rfl rfl (evl_part rfl rfl (fun h2 => ?_) (fun h2 => ?_)))))))
  ·try have d2 := of_decide_eq_true h2
   refine gn h2 rfl rfl rfl (gn h2 rfl rfl rfl (gn h2 rfl rfl rfl (gn h2 rfl rfl rfl (xo (q_pick_t rfl h2 rfl) rfl (nl (et (ev_cond_kt rfl rfl (sq (rg (xo (q_build ttOk rfl) rfl (xst ttOk rfl rfl (xs rfl rfl (nl (et (ev_ret (evr_then (ret_pure' ttOk rfl rfl ?_)))))))))))))))))
   first
   | (rw [cl_no1 ‹_›] <;> rfl)
   | (rw [cl_no2 ‹_›] <;> rfl)
   | (rw [cl_no3 ‹_›] <;> rfl)
   | (rw [cl_yes ‹_› (Decidable.not_not.1 ‹_›) ‹_›] <;> rfl)
  ·try have d2 := of_decide_eq_false h2
   refine go h2 rfl rfl (q_load ttOk rfl) rfl (go h2 rfl rfl (q_load ttOk rfl) rfl (evl_callg rfl rfl h2 (nm := 27) (cf rfl) (c_fits b ((rowSlotF r).getD noEntry) hb) (rs_of rfl) rfl rfl rfl (go h2 rfl rfl (q_not rfl) rfl (xo (q_pick_f rfl h2 rfl) rfl (nl (et (ev_cond_n rfl (fun h3 => ?_) (fun h3 => ?_))))))))
   ·try have d3 := of_decide_eq_false h3
    refine sq (rg (xo (q_build ttOk rfl) rfl (xst ttOk rfl rfl (xs rfl rfl (nl (et (ev_ret (evr_then (ret_pure' ttOk rfl rfl ?_)))))))))
    first
    | (rw [cl_no1 ‹_›] <;> rfl)
    | (rw [cl_no2 ‹_›] <;> rfl)
    | (rw [cl_no3 ‹_›] <;> rfl)
    | (rw [cl_yes ‹_› (Decidable.not_not.1 ‹_›) ‹_›] <;> rfl)
   ·try have d3 := of_decide_eq_true h3
    refine ev_skip (et (sq (rg (xl ttOk rfl rfl (xl ttOk rfl rfl (evl_call (nm := 34) (cf rfl) (c_Marked' s ((rowSlotF r).getD noEntry)) (rs_of rfl) rfl rfl rfl (xm rfl rfl (xo (q_ext rfl) rfl (xo (q_ext rfl) rfl (xs rfl rfl (xs rfl rfl (nl (et (sq (rg (xl ttOk rfl rfl (xm rfl rfl (xst ttOk rfl rfl (xs rfl rfl (nl (et (ev_ret (ret_pure' ttOk rfl rfl ?_)))))))))))))))))))))))
    first
    | (rw [cl_no1 ‹_›] <;> rfl)
    | (rw [cl_no2 ‹_›] <;> rfl)
    | (rw [cl_no3 ‹_›] <;> rfl)
    | (rw [cl_yes ‹_› (Decidable.not_not.1 ‹_›) ‹_›] <;> rfl)
theorem c_firstIn (t : Two) (b : Book) (s : List Mark) (hs : seenOk s = true) : PureF Tryz.prog 49 [many (twoC t), one (iC (slotF (lastB b + 1)))] (fun r : List Int => [one (ints r)]) (fun r : List Int => [many' [.v (.int .i64 ((clF b s (lastB b + 1) r).1).index), .v (.int .i64 ((clF b s (lastB b + 1) r).1).time), .v (.int .i64 ((clF b s (lastB b + 1) r).1).client), .v (.int .i64 ((clF b s (lastB b + 1) r).1).seq), .v (.int .i64 ((clF b s (lastB b + 1) r).1).kind), .v (.int .i64 ((clF b s (lastB b + 1) r).1).a), .v (.int .i64 ((clF b s (lastB b + 1) r).1).b), .v (.int .i64 ((clF b s (lastB b + 1) r).1).c), .v (.int .i64 ((clF b s (lastB b + 1) r).1).d)], one' (RC.v (.bool (clF b s (lastB b + 1) r).2))]) [many' [.v (.int .i64 ((nextE t b s).getD noEntry).index), .v (.int .i64 ((nextE t b s).getD noEntry).time), .v (.int .i64 ((nextE t b s).getD noEntry).client), .v (.int .i64 ((nextE t b s).getD noEntry).seq), .v (.int .i64 ((nextE t b s).getD noEntry).kind), .v (.int .i64 ((nextE t b s).getD noEntry).a), .v (.int .i64 ((nextE t b s).getD noEntry).b), .v (.int .i64 ((nextE t b s).getD noEntry).c), .v (.int .i64 ((nextE t b s).getD noEntry).d)], one' (RC.v (.bool (nextE t b s).isSome))] := by
 obtain ⟨g, hg⟩ : ∃ g, g = clF b s (lastB b + 1) := ⟨_, rfl⟩
 obtain ⟨L, hL⟩ : ∃ L, L = rightF t (slotF (lastB b + 1)) := ⟨_, rfl⟩
 have hcr := c_RightAt' t (slotF (lastB b + 1))
 rw [← hL] at hcr
 have hLl : L.length ≤ 2 := by rw [hL]; exact rightF_len _ _
 have hfi : L.findSome? (pickG g) = nextE t b s := by rw [hL, hg, pick_eq hs]; rfl
 rw [← hg]
 refine puref_intro (N := 31) Tryz.func49 rfl rfl rfl rfl (fun v => rfl) (fun H w v hfn => ?_)
 refine sq (rg (evl_e (e_box rfl rfl rfl rfl) (evl_e (e_alloc ttOk rfl rfl rfl rfl) (xs rfl rfl (nl (et (sq (sq (rg ?_)))))))))
 first | refine xo (q_load_pr ttOk rfl rfl rfl rfl (get_map om) rfl rfl) rfl ?_ | refine xl ttOk rfl rfl ?_
 refine xm rfl rfl (evl_call (nm := 15) (cf rfl) hcr (rs_of rfl) rfl rfl rfl (xo (q_len_rtm ttOk rfl rfl rfl) rfl (xm rfl rfl (nl (et (ev_blk (ev_loop (fun j : Nat => (⟨[(17, iV j), (15, .p false [.rt 102]), (16, iV L.length), (2, .p false [.c (.v v)]), (3, pbV 3 0), (6, pbV 6 0)], [(6, 62, [.c (iC 0), .c (iC 0), .c (iC 0), .c (iC 0), .c (iC 0), .c (iC 0), .c (iC 0), .c (iC 0), .c (iC 0)]), (3, 32, [.c (rows t.a.kept), .c (writes t.a.wait), .c (rows t.b.kept), .c (writes t.b.wait)])], [(102, 45, 1, (L.map fun r => [ints r]))], []⟩ : St)) (fun j => j ≤ L.length ∧ ∀ r ∈ L.take j, pickG g r = none) (fun j => L.length - j) 0 [(102, 15)] (⟨by simp, by simp⟩) ⟨trf, trf, ⟨⟨_, rfl, by rfl⟩, trivial⟩, tre, rfl⟩ ?_)))))))
 intro j hp
 obtain ⟨p0, p1⟩ := hp
 show Ev _ _ _ _ (⟨[(17, iV j), (15, .p false [.rt 102]), (16, iV L.length), (2, .p false [.c (.v v)]), (3, pbV 3 0), (6, pbV 6 0)], [(6, 62, [.c (iC 0), .c (iC 0), .c (iC 0), .c (iC 0), .c (iC 0), .c (iC 0), .c (iC 0), .c (iC 0), .c (iC 0)]), (3, 32, [.c (rows t.a.kept), .c (writes t.a.wait), .c (rows t.b.kept), .c (writes t.b.wait)])], [(102, 45, 1, (L.map fun r => [ints r]))], []⟩ : St)
 refine sq (rg (xb ttOk rfl rfl (nl (et (sq (ev_cond rfl (fun h1 => ?_) (fun h1 => ?_)))))))
 ·try have d1 := of_decide_eq_true h1
  refine ev_skip (et (sq (ev_blk (sq (rg (xo (q_ix_rt (m := j) ttOk rfl rfl rfl rfl rfl rfl (by simp; omega)) rfl ?_))))))
  first | refine xo (q_load_pr ttOk rfl rfl rfl rfl (get_map om) rfl rfl) rfl ?_ | refine xl ttOk rfl rfl ?_
  refine xs rfl rfl (nl (et (sq (rg (xm rfl rfl (xm rfl rfl (evl_callf (nm := 24) (L[j]'om) rfl hfn (rs_sub rfl rfl (get_map om) rfl) rfl rfl rfl (xm rfl rfl (xo (q_ext rfl) rfl (xo (q_ext rfl) rfl (evl_e (e_alloc ttOk rfl rfl rfl rfl) (xst ttOk rfl rfl (xs rfl rfl (nl (et (sq (rg (xm rfl rfl (nl (et (ev_cond rfl (fun h2 => ?_) (fun h2 => ?_))))))))))))))))))))))
  ·try have d2 := of_decide_eq_true h2
   refine sq (rg ?_)
   first | refine xo (q_load_pr ttOk rfl rfl rfl rfl (get_map om) rfl rfl) rfl ?_ | refine xl ttOk rfl rfl ?_
   refine xst ttOk rfl rfl (xs rfl rfl (nl (et (ev_ret (evr_blk (evr_then (evr_then (evr_blk (evr_then (ret_pure' ttOk rfl rfl ?_))))))))))
   first
   | (rw [← hfi, find_end (j := j) om p1] <;> rfl)
   | (rw [← hfi, find_at (j := j) om p1 (pk_yes ‹_›)] <;> rfl)
  ·try have d2 := of_decide_eq_false h2
   refine ev_skip (eb (et (rg (xa rfl rfl rfl om rfl (xm rfl rfl (nl (eve_round (j + 1) [] ?hp ⟨trf, trf, ⟨⟨_, rfl, by rfl⟩, trivial⟩, tre, rfl⟩)))))))
   case hp => exact ⟨⟨by omega, all_takeP om p1 (pk_no ‹_›)⟩, by omega⟩
 ·try have d1 := of_decide_eq_false h1
  refine ev_exit (evx_then (evx_then (evx_hit (et (sq (rg (evl_e (e_alloc ttOk rfl rfl rfl rfl) (nl (et (sq (rg ?_)))))))))))
  first | refine xo (q_load_pr ttOk rfl rfl rfl rfl (get_map om) rfl rfl) rfl ?_ | refine xl ttOk rfl rfl ?_
  refine xst ttOk rfl rfl (xs rfl rfl (nl (et (ev_ret (ret_pure' ttOk rfl rfl ?_)))))
  first
  | (rw [← hfi, find_end (j := j) om p1] <;> rfl)
  | (rw [← hfi, find_at (j := j) om p1 (pk_yes ‹_›)] <;> rfl)
theorem c_BookIn' (t : Two) (h : Head) : Pure Tryz.prog 21 [many (twoC t), many (headC h)] [many' (bookR (bookInF t h))] := by
 refine pure_intro (N := 52) Tryz.func21 rfl rfl rfl rfl (fun H w => ?_)
 refine sq (rg (evl_e (e_box rfl rfl rfl rfl) (evl_e (e_box rfl rfl rfl rfl) (evl_e (e_alloc ttOk rfl rfl rfl rfl) (nl (et (sq (sq (rg (xl ttOk rfl rfl (evl_call (nm := 11) (cf rfl) (c_KeptOk' t) (rs_of rfl) rfl rfl rfl (xo (q_not rfl) rfl (xm rfl rfl (evl_partn rfl rfl (fun h1 => ?_) (fun h1 => ?_)))))))))))))))
 ·refine gn (nt h1) rfl rfl rfl (gn (nt h1) rfl rfl rfl (gn (nt h1) rfl rfl rfl (xo (q_pick_t rfl (nt h1) rfl) rfl (nl (et (ev_cond_kt rfl rfl (sq (rg (xo (q_build ttOk rfl) rfl (xst ttOk rfl rfl (nl (et (ev_ret (evr_then (ret_pureN ttOk rfl rfl ?_)))))))))))))))
  first
  | (rw [bi_no1 ‹_›]; simp [RpLe, L2, RcLe]; done)
  | (rw [bi_no2 ‹_›]; simp [RpLe, L2, RcLe]; done)
  | (rw [bi_yes ‹_› ‹_› p0 om (none_of ‹_›)]; simp [RpLe, L2, RcLe]; done)
 ·refine go (nf h1) rfl rfl (q_load ttOk rfl) rfl (evl_callg rfl rfl (nf h1) (nm := 15) (cf rfl) (c_HeadOk' h) (rs_of rfl) rfl rfl rfl (go (nf h1) rfl rfl (q_not rfl) rfl (xo (q_pick_f rfl (nf h1) rfl) rfl (nl (et (ev_cond_n rfl (fun h2 => ?_) (fun h2 => ?_)))))))
  ·refine sq (rg (xo (q_build ttOk rfl) rfl (xst ttOk rfl rfl (nl (et (ev_ret (evr_then (ret_pureN ttOk rfl rfl ?_))))))))
   first
   | (rw [bi_no1 ‹_›]; simp [RpLe, L2, RcLe]; done)
   | (rw [bi_no2 ‹_›]; simp [RpLe, L2, RcLe]; done)
   | (rw [bi_yes ‹_› ‹_› p0 om (none_of ‹_›)]; simp [RpLe, L2, RcLe]; done)
  ·have hhd := head_bd (show headOk h = true by assumption)
   have hsl0 := seen_len hhd.2.2.2.2
   refine ev_skip (et (sq (ev_frz (cs := headC h) 3 rfl rfl rfl (fun HF3_0 hHF3_0 => ?_))))
   refine' ev_drawhJ mo ?hdr1 ?kdr1
   case hdr1 =>
    refine rdh_take 0 rfl kr trivial (QuietW.h (qw_fieldAddr ttOk rfl)) rfl (rdh_take 1 rfl kr trivial (q_loadH ttOk rfl rfl) rfl (rdh_take 2 rfl kr trivial (QuietW.h (qw_fieldAddr ttOk rfl)) rfl (rdh_take 3 rfl kr trivial (q_loadH ttOk rfl rfl) rfl (rdh_take 5 rfl kr trivial (QuietW.h (qw_fieldAddr ttOk rfl)) rfl (rdh_take 6 rfl kr trivial (q_loadH ttOk rfl rfl) rfl (rdh_3 4 7 8 kr ?_ ?_ ?_))))))
    ·refine rdho_q rfl trivial (q_build ttOk rfl) rfl (rdh_2 7 8 kr ?_ ?_)
     ·refine rdho_eff rfl trivial (e_alloc ttOk rfl rfl rfl rfl) (rdh_1 8 kr (rdho_eff rfl trivial (e_alloc ttOk rfl rfl rfl rfl) (rdh_1 9 kr (rdho_eff rfl trivial (e_store ttOk rfl) (rdh_1 10 kr (rdho_eff rfl trivial (e_store ttOk rfl) ?_))))))
      exact rdh_fin kr
     ·refine rdho_eff rfl trivial (e_alloc ttOk rfl rfl rfl rfl) (rdh_1 7 kr (rdho_eff rfl trivial (e_alloc ttOk rfl rfl rfl rfl) (rdh_1 9 kr (rdho_eff rfl trivial (e_store ttOk rfl) (rdh_1 10 kr (rdho_eff rfl trivial (e_store ttOk rfl) ?_))))))
      exact rdh_le [] kr lei
    ·refine rdho_eff rfl trivial (e_alloc ttOk rfl rfl rfl rfl) (rdh_2 4 8 kr ?_ ?_)
     ·refine rdho_q rfl trivial (q_build ttOk rfl) rfl (rdh_1 8 kr (rdho_eff rfl trivial (e_alloc ttOk rfl rfl rfl rfl) (rdh_1 9 kr (rdho_eff rfl trivial (e_store ttOk rfl) (rdh_1 10 kr (rdho_eff rfl trivial (e_store ttOk rfl) ?_))))))
      exact rdh_le [] kr lei
     ·refine rdho_eff rfl trivial (e_alloc ttOk rfl rfl rfl rfl) (rdh_1 4 kr (rdho_q rfl trivial (q_build ttOk rfl) rfl (rdh_1 9 kr (rdho_eff rfl trivial (e_store ttOk rfl) (rdh_1 10 kr (rdho_eff rfl trivial (e_store ttOk rfl) ?_))))))
      exact rdh_le [] kr lei
    ·refine rdho_eff rfl trivial (e_alloc ttOk rfl rfl rfl rfl) (rdh_2 4 7 kr ?_ ?_)
     ·refine rdho_q rfl trivial (q_build ttOk rfl) rfl (rdh_1 7 kr (rdho_eff rfl trivial (e_alloc ttOk rfl rfl rfl rfl) (rdh_1 9 kr (rdho_eff rfl trivial (e_store ttOk rfl) (rdh_1 10 kr (rdho_eff rfl trivial (e_store ttOk rfl) ?_))))))
      exact rdh_le [] kr lei
     ·refine rdho_eff rfl trivial (e_alloc ttOk rfl rfl rfl rfl) (rdh_1 4 kr (rdho_q rfl trivial (q_build ttOk rfl) rfl (rdh_1 9 kr (rdho_eff rfl trivial (e_store ttOk rfl) (rdh_1 10 kr (rdho_eff rfl trivial (e_store ttOk rfl) ?_))))))
      exact rdh_le [] kr lei
   refine et (ev_adopt (b := 5) 2 101 62 9 rfl rfl rfl rfl rfl (ev_blk (ev_loop (fun i : Nat × Book × List Mark => (⟨[(2, pbV 2 0), (4, pbV 4 0), (5, pbV 5 0), (6, pbV 6 0)], [(6, 34, [seenA i.1 i.2.2]), (5, 39, [.c (iC i.2.1.base), .c (iC i.2.1.time), .rt 101]), (4, 39, [.c (iC 0), .c (iC 0), .c .nil]), (2, 32, [.c (rows t.a.kept), .c (writes t.a.wait), .c (rows t.b.kept), .c (writes t.b.wait)])], ((101, 62, 9, (i.2.1.entries.map entryC)) :: seenR i.1 i.2.2), []⟩ : St)) (fun i => (i.2.1, i.2.2) = bookUp t h i.1 ∧ i.2.1.entries.length = i.1) (fun i => 21 - i.1) (0, ⟨h.base, h.time, []⟩, h.seen) [] (⟨rfl, rfl⟩) ⟨trf, trf, ⟨⟨_, rfl, by rfl⟩, trivial⟩, tre, rfl⟩ ?_)))
   intro i hp
   obtain ⟨k, bk, sn⟩ := i
   have hp : (bk, sn) = bookUp t h k ∧ bk.entries.length = k := hp
   obtain ⟨p0, p1⟩ := hp
   show Ev _ _ _ _ (⟨[(2, pbV 2 0), (4, pbV 4 0), (5, pbV 5 0), (6, pbV 6 0)], [(6, 34, [seenA k sn]), (5, 39, [.c (iC bk.base), .c (iC bk.time), .rt 101]), (4, 39, [.c (iC 0), .c (iC 0), .c .nil]), (2, 32, [.c (rows t.a.kept), .c (writes t.a.wait), .c (rows t.b.kept), .c (writes t.b.wait)])], ((101, 62, 9, (bk.entries.map entryC)) :: seenR k sn), []⟩ : St)
   have hup := up_ok (t := t) (h := h) ‹_› k
   rw [← p0] at hup
   have hup : bookOk bk = true ∧ seenOk sn = true ∧ bk.entries.length ≤ k := hup
   have hbd := book_bd hup.1
   have hbl := book_last hup.1
   have hsl := seen_len hup.2.1
   refine ev_blk ?_
   rcases k with _ | k
   ·refine sq ?_
    show Ev _ _ _ _ (⟨[(2, pbV 2 0), (4, pbV 4 0), (5, pbV 5 0), (6, pbV 6 0)], [(6, 34, [.c (marks sn)]), (5, 39, [.c (iC bk.base), .c (iC bk.time), .rt 101]), (4, 39, [.c (iC 0), .c (iC 0), .c .nil]), (2, 32, [.c (rows t.a.kept), .c (writes t.a.wait), .c (rows t.b.kept), .c (writes t.b.wait)])], [(101, 62, 9, (bk.entries.map entryC))], []⟩ : St)
    refine rg (xl ttOk rfl rfl (evl_call (nm := 27) (cf rfl) (c_lastOf bk hup.1) (rs_of rfl) rfl rfl rfl (xa rfl rfl rfl om rfl (evl_e (e_alloc ttOk rfl rfl rfl rfl) (xst ttOk rfl rfl (nl (et (sq ?_))))))))
    refine' ev_draw [9] mo ?hdr2 ?kdr2
    case hdr2 =>
     refine rk0 0 rfl (q_load ttOk rfl) rfl (rk0 1 rfl (q_load ttOk rfl) rfl (rk0 3 rfl (q_mkf3 rfl rfl rfl) rfl (rdk_two 2 8 kr ?_ ?_)))
     ·refine rdo_call (nm := 32) rfl trivial (cf rfl) (c_slotOf (lastB bk + 1) om) (rs_of rfl) rfl rfl rfl (rdk_two 4 8 kr ?_ ?_)
      ·refine rdo_callF (nm := 34) rfl trivial (cf rfl) (c_firstIn t bk sn hup.2.1) (rs_of rfl) rfl kr rfl (fun r => c_BookIn1 bk sn (lastB bk + 1) hup.1 r) rfl rfl rfl (rk0 5 rfl (q_move rfl) rfl (rk0 6 rfl (q_ext rfl) rfl (rdk_pure 7 rfl kr trivial (qw_ext rfl) rfl (rdk_one 8 kr (rdo_new rfl trivial (e_alloc ttOk rfl rfl rfl rfl) (rdk_one 9 kr (rdo_brk rfl rfl trivial (e_store ttOk rfl) (rdb_q 10 rfl kr trivial (q_assign rfl) rfl ?_))))))))
       exact rdb_fin kr
      ·refine rdo_new rfl trivial (e_alloc ttOk rfl rfl rfl rfl) (rdk_one 4 kr (rdo_callF (nm := 34) rfl trivial (cf rfl) (c_firstIn t bk sn hup.2.1) (rs_of rfl) rfl kr rfl (fun r => c_BookIn1 bk sn (lastB bk + 1) hup.1 r) rfl rfl rfl (rk0 5 rfl (q_move rfl) rfl (rk0 6 rfl (q_ext rfl) rfl (rdk_pure 7 rfl kr trivial (qw_ext rfl) rfl (rdk_one 9 kr (rdo_brk rfl rfl trivial (e_store ttOk rfl) (rdb_q 10 rfl kr trivial (q_assign rfl) rfl ?_))))))))
       exact rdb_le [] kr lei
     ·refine rdo_new rfl trivial (e_alloc ttOk rfl rfl rfl rfl) (rdk_one 2 kr (rdo_call (nm := 32) rfl trivial (cf rfl) (c_slotOf (lastB bk + 1) om) (rs_of rfl) rfl rfl rfl (rdk_one 4 kr (rdo_callF (nm := 34) rfl trivial (cf rfl) (c_firstIn t bk sn hup.2.1) (rs_of rfl) rfl kr rfl (fun r => c_BookIn1 bk sn (lastB bk + 1) hup.1 r) rfl rfl rfl (rk0 5 rfl (q_move rfl) rfl (rk0 6 rfl (q_ext rfl) rfl (rdk_pure 7 rfl kr trivial (qw_ext rfl) rfl (rdk_one 9 kr (rdo_brk rfl rfl trivial (e_store ttOk rfl) (rdb_q 10 rfl kr trivial (q_assign rfl) rfl ?_))))))))))
      exact rdb_le [] kr lei
    refine et (sq (sq (rg (xm rfl rfl (xo (q_not rfl) rfl (nl (et (ev_cond_n rfl (fun h3 => ?_) (fun h3 => ?_)))))))))
    ·refine sq (rg (xl ttOk rfl rfl (xst ttOk rfl rfl (nl (et (ev_ret (evr_then (evr_blk (evr_then (evr_blk (retH rfl (ret_pureN ttOk rfl rfl ?_))))))))))))
     first
     | (rw [bi_no1 ‹_›]; simp [RpLe, L2, RcLe]; done)
     | (rw [bi_no2 ‹_›]; simp [RpLe, L2, RcLe]; done)
     | (rw [bi_yes ‹_› ‹_› p0 om (none_of ‹_›)]; simp [RpLe, L2, RcLe]; done)
    ·refine ev_skip (et (sq (rg (xf ttOk rfl rfl (xl ttOk rfl rfl (xl ttOk rfl rfl (evl_e (e_lit ttOk rfl rfl rfl) (evl_e (e_app ttOk rfl rfl rfl rfl rfl rfl rfl (by simp; omega) rfl rfl) (xf ttOk rfl rfl (xst ttOk rfl rfl (nl (et (rg (xl ttOk rfl rfl (xl ttOk rfl rfl (evl_call (nm := 49) (cf rfl) (c_Marked' sn ((nextE t bk sn).getD noEntry)) (rs_of rfl) rfl rfl rfl (xm rfl rfl (xo (q_ext rfl) rfl (xo (q_ext rfl) rfl (xst ttOk rfl rfl (nl (eb ?_))))))))))))))))))))))
     obtain ⟨hun1, hun2⟩ := up_next hup.1 hup.2.1 p0 ‹_›
     refine eve_round (0 + 1, appF bk ((nextE t bk sn).getD noEntry), (markedF sn ((nextE t bk sn).getD noEntry)).1) [(101, 44), (102, 49)] ?hp ⟨trf, trf, ⟨⟨_, rfl, by simp [appF]⟩, ⟨_, rfl, by rfl⟩, trivial⟩, tre, rfl⟩
     case hp => exact ⟨⟨hun2, by simp [appF, p1]⟩, by omega⟩
   ·refine sq ?_
    show Ev _ _ _ _ (⟨[(2, pbV 2 0), (4, pbV 4 0), (5, pbV 5 0), (6, pbV 6 0)], [(6, 34, [.rt 102]), (5, 39, [.c (iC bk.base), .c (iC bk.time), .rt 101]), (4, 39, [.c (iC 0), .c (iC 0), .c .nil]), (2, 32, [.c (rows t.a.kept), .c (writes t.a.wait), .c (rows t.b.kept), .c (writes t.b.wait)])], [(101, 62, 9, (bk.entries.map entryC)), (102, 76, 3, (sn.map markC))], []⟩ : St)
    refine rg (xl ttOk rfl rfl (evl_call (nm := 27) (cf rfl) (c_lastOf bk hup.1) (rs_of rfl) rfl rfl rfl (xa rfl rfl rfl om rfl (evl_e (e_alloc ttOk rfl rfl rfl rfl) (xst ttOk rfl rfl (nl (et (sq ?_))))))))
    refine' ev_draw [9] mo ?hdr3 ?kdr3
    case hdr3 =>
     refine rk0 0 rfl (q_load ttOk rfl) rfl (rk0 1 rfl (q_load ttOk rfl) rfl (rk0 3 rfl (q_mkf3 rfl rfl rfl) rfl (rdk_two 2 8 kr ?_ ?_)))
     ·refine rdo_call (nm := 32) rfl trivial (cf rfl) (c_slotOf (lastB bk + 1) om) (rs_of rfl) rfl rfl rfl (rdk_two 4 8 kr ?_ ?_)
      ·refine rdo_callF (nm := 34) rfl trivial (cf rfl) (c_firstIn t bk sn hup.2.1) (rs_of rfl) rfl kr rfl (fun r => c_BookIn1 bk sn (lastB bk + 1) hup.1 r) rfl rfl rfl (rk0 5 rfl (q_move rfl) rfl (rk0 6 rfl (q_ext rfl) rfl (rdk_pure 7 rfl kr trivial (qw_ext rfl) rfl (rdk_one 8 kr (rdo_new rfl trivial (e_alloc ttOk rfl rfl rfl rfl) (rdk_one 9 kr (rdo_brk rfl rfl trivial (e_store ttOk rfl) (rdb_q 10 rfl kr trivial (q_assign rfl) rfl ?_))))))))
       exact rdb_fin kr
      ·refine rdo_new rfl trivial (e_alloc ttOk rfl rfl rfl rfl) (rdk_one 4 kr (rdo_callF (nm := 34) rfl trivial (cf rfl) (c_firstIn t bk sn hup.2.1) (rs_of rfl) rfl kr rfl (fun r => c_BookIn1 bk sn (lastB bk + 1) hup.1 r) rfl rfl rfl (rk0 5 rfl (q_move rfl) rfl (rk0 6 rfl (q_ext rfl) rfl (rdk_pure 7 rfl kr trivial (qw_ext rfl) rfl (rdk_one 9 kr (rdo_brk rfl rfl trivial (e_store ttOk rfl) (rdb_q 10 rfl kr trivial (q_assign rfl) rfl ?_))))))))
       exact rdb_le [] kr lei
     ·refine rdo_new rfl trivial (e_alloc ttOk rfl rfl rfl rfl) (rdk_one 2 kr (rdo_call (nm := 32) rfl trivial (cf rfl) (c_slotOf (lastB bk + 1) om) (rs_of rfl) rfl rfl rfl (rdk_one 4 kr (rdo_callF (nm := 34) rfl trivial (cf rfl) (c_firstIn t bk sn hup.2.1) (rs_of rfl) rfl kr rfl (fun r => c_BookIn1 bk sn (lastB bk + 1) hup.1 r) rfl rfl rfl (rk0 5 rfl (q_move rfl) rfl (rk0 6 rfl (q_ext rfl) rfl (rdk_pure 7 rfl kr trivial (qw_ext rfl) rfl (rdk_one 9 kr (rdo_brk rfl rfl trivial (e_store ttOk rfl) (rdb_q 10 rfl kr trivial (q_assign rfl) rfl ?_))))))))))
      exact rdb_le [] kr lei
    refine et (sq (sq (rg (xm rfl rfl (xo (q_not rfl) rfl (nl (et (ev_cond_n rfl (fun h4 => ?_) (fun h4 => ?_)))))))))
    ·refine sq (rg (xl ttOk rfl rfl (xst ttOk rfl rfl (nl (et (ev_ret (evr_then (evr_blk (evr_then (evr_blk (retH rfl (ret_pureN ttOk rfl rfl ?_))))))))))))
     first
     | (rw [bi_no1 ‹_›]; simp [RpLe, L2, RcLe]; done)
     | (rw [bi_no2 ‹_›]; simp [RpLe, L2, RcLe]; done)
     | (rw [bi_yes ‹_› ‹_› p0 om (none_of ‹_›)]; simp [RpLe, L2, RcLe]; done)
    ·refine ev_skip (et (sq (rg (xf ttOk rfl rfl (xl ttOk rfl rfl (xl ttOk rfl rfl (evl_e (e_lit ttOk rfl rfl rfl) (evl_e (e_app ttOk rfl rfl rfl rfl rfl rfl rfl (by simp; omega) rfl rfl) (xf ttOk rfl rfl (xst ttOk rfl rfl (nl (et (rg (xl ttOk rfl rfl (xl ttOk rfl rfl (evl_call (nm := 49) (cf rfl) (c_Marked' sn ((nextE t bk sn).getD noEntry)) (rs_of rfl) rfl rfl rfl (xm rfl rfl (xo (q_ext rfl) rfl (xo (q_ext rfl) rfl (xst ttOk rfl rfl (nl (eb ?_))))))))))))))))))))))
     obtain ⟨hun1, hun2⟩ := up_next hup.1 hup.2.1 p0 ‹_›
     refine eve_round (k + 1 + 1, appF bk ((nextE t bk sn).getD noEntry), (markedF sn ((nextE t bk sn).getD noEntry)).1) [(101, 44), (102, 49)] ?hp ⟨trf, trf, ⟨⟨_, rfl, by simp [appF]⟩, ⟨_, rfl, by rfl⟩, trivial⟩, tre, rfl⟩
     case hp => exact ⟨⟨hun2, by simp [appF, p1]⟩, by omega⟩
def slotRowF (e : Entry) : List Int := if entryOk e then e.nums ++ [e.index, e.index] else []
theorem slotRow_yes {e : Entry} (h : entryOk e = true) : slotRowF e = e.nums ++ [e.index, e.index] := by simp [slotRowF, h]
theorem op_of {e : Entry} (h : entryOk e = true) : opOk e.kind e.a e.b e.c e.d = true := by
 simp only [entryOk, Bool.and_eq_true] at h
 exact h.2.2.2.2
theorem c_OpRow (e : Entry) (h : entryOk e = true) : Pure Tryz.prog 156 [many [iC e.kind, iC e.a, iC e.b, iC e.c, iC e.d]] [one' (intsR 2 [e.kind, e.a, e.b, e.c, e.d])] := by
 refine pure_intro (N := 18) Tryz.func156 rfl rfl rfl rfl (fun H w => ?_)
 have ho := op_of h
 refine sq (rg (evl_e (e_box rfl rfl rfl rfl) (xs rfl rfl (nl (et (sq (sq (rg (xl ttOk rfl rfl (evl_call (nm := 4) (cf rfl) (c_OpOk e.kind e.a e.b e.c e.d) (rs_of rfl) rfl rfl rfl (xo (q_not rfl) rfl (nl (et (ev_cond_n rfl (fun h1 => ?_) (fun h1 => ?_)))))))))))))))
 ·refine sq (rg (evl_e (e_lit ttOk rfl rfl rfl) (xs rfl rfl (nl (et (ev_ret (evr_then (ret_pure' ttOk rfl rfl ?_))))))))
  first
  | rfl
  | (exfalso; simp_all; done)
 ·refine ev_skip (et (sq (rg (xf ttOk rfl rfl (xl ttOk rfl rfl (xf ttOk rfl rfl (xl ttOk rfl rfl (xf ttOk rfl rfl (xl ttOk rfl rfl (xf ttOk rfl rfl (xl ttOk rfl rfl (xf ttOk rfl rfl (xl ttOk rfl rfl (evl_e (e_lit ttOk rfl rfl rfl) (xs rfl rfl (nl (et (ev_ret (ret_pure' ttOk rfl rfl ?_)))))))))))))))))))
  first
  | rfl
  | (exfalso; simp_all; done)
theorem c_EntryRow (e : Entry) (h : entryOk e = true) : Pure Tryz.prog 150 [many (entryC e)] [one' (intsR 2 e.nums)] := by
 refine pure_intro (N := 20) Tryz.func150 rfl rfl rfl rfl (fun H w => ?_)
 refine sq (rg (evl_e (e_box rfl rfl rfl rfl) (xs rfl rfl (nl (et (sq (sq (rg (xl ttOk rfl rfl (evl_call (nm := 4) (cf rfl) (c_EntryOk e) (rs_of rfl) rfl rfl rfl (xo (q_not rfl) rfl (nl (et (ev_cond_n rfl (fun h1 => ?_) (fun h1 => ?_)))))))))))))))
 ·refine sq (rg (evl_e (e_lit ttOk rfl rfl rfl) (xs rfl rfl (nl (et (ev_ret (evr_then (ret_pure' ttOk rfl rfl ?_))))))))
  first
  | rfl
  | (exfalso; simp_all; done)
 ·refine ev_skip (et (sq (ev_drawq [12] mo (rk0 0 rfl (q_fieldAddr ttOk rfl) rfl (rk0 1 rfl (q_load ttOk rfl) rfl (rk0 2 rfl (q_fieldAddr ttOk rfl) rfl (rk0 3 rfl (q_load ttOk rfl) rfl (rk0 4 rfl (q_fieldAddr ttOk rfl) rfl (rk0 5 rfl (q_load ttOk rfl) rfl (rk0 6 rfl (q_fieldAddr ttOk rfl) rfl (rk0 7 rfl (q_load ttOk rfl) rfl (rk0 9 rfl (q_fieldAddr ttOk rfl) rfl (rk0 10 rfl (q_load ttOk rfl) rfl (rdk_two 8 11 kr ?_ ?_))))))))))))))
  ·refine rdo_new rfl trivial (e_lit ttOk rfl rfl rfl) (rdk_one 11 kr (rdo_call (nm := 18) rfl trivial (cf rfl) (c_OpRow e h) (rs_of rfl) rfl rfl rfl (rdk_one 12 kr (rdo_brk rfl rfl trivial (e_app ttOk rfl rfl rfl rfl rfl rfl rfl (by simp) rfl rfl) (rdb_q 13 rfl kr trivial (q_assign rfl) rfl (rdb_endq kr (et (ev_ret (ret_pure' ttOk rfl rfl ?_)))))))))
   first
   | rfl
   | (exfalso; simp_all; done)
  ·refine rdo_call (nm := 18) rfl trivial (cf rfl) (c_OpRow e h) (rs_of rfl) rfl rfl rfl (rdk_one 8 kr (rdo_new rfl trivial (e_lit ttOk rfl rfl rfl) (rdk_one 12 kr (rdo_brk rfl rfl trivial (e_app ttOk rfl rfl rfl rfl rfl rfl rfl (by simp) rfl rfl) (rdb_q 13 rfl kr trivial (q_assign rfl) rfl (rdb_endq kr (et (ev_ret (ret_pure' ttOk rfl rfl ?_)))))))))
   first
   | rfl
   | (exfalso; simp_all; done)
theorem c_SlotRow (e : Entry) (h : entryOk e = true) : Pure Tryz.prog 135 [many (entryC e)] [one' (intsR 2 (slotRowF e))] := by
 refine pure_intro (N := 15) Tryz.func135 rfl rfl rfl rfl (fun H w => ?_)
 refine sq (rg (evl_e (e_box rfl rfl rfl rfl) (xs rfl rfl (nl (et (sq (sq (rg (xl ttOk rfl rfl (evl_call (nm := 4) (cf rfl) (c_EntryOk e) (rs_of rfl) rfl rfl rfl (xo (q_not rfl) rfl (nl (et (ev_cond_n rfl (fun h1 => ?_) (fun h1 => ?_)))))))))))))))
 ·refine sq (rg (evl_e (e_lit ttOk rfl rfl rfl) (xs rfl rfl (nl (et (ev_ret (evr_then (ret_pure' ttOk rfl rfl ?_))))))))
  first
  | (rw [slotRow_yes h] <;> rfl)
  | (exfalso; simp_all; done)
 ·refine ev_skip (et (sq (ev_drawq [7] mo (rk0 0 rfl (q_load ttOk rfl) rfl (rk0 2 rfl (q_fieldAddr ttOk rfl) rfl (rk0 3 rfl (q_load ttOk rfl) rfl (rk0 4 rfl (q_fieldAddr ttOk rfl) rfl (rk0 5 rfl (q_load ttOk rfl) rfl (rdk_two 1 6 kr ?_ ?_)))))))))
  ·refine rdo_call (nm := 8) rfl trivial (cf rfl) (c_EntryRow e h) (rs_of rfl) rfl rfl rfl (rdk_one 6 kr (rdo_new rfl trivial (e_lit ttOk rfl rfl rfl) (rdk_one 7 kr (rdo_brk rfl rfl trivial (e_app ttOk rfl rfl rfl rfl rfl rfl rfl (by simp [Entry.nums]) rfl rfl) (rdb_q 8 rfl kr trivial (q_assign rfl) rfl (rdb_endq kr (et (ev_ret (ret_pure' ttOk rfl rfl ?_)))))))))
   first
   | (rw [slotRow_yes h] <;> rfl)
   | (exfalso; simp_all; done)
  ·refine rdo_new rfl trivial (e_lit ttOk rfl rfl rfl) (rdk_one 1 kr (rdo_call (nm := 8) rfl trivial (cf rfl) (c_EntryRow e h) (rs_of rfl) rfl rfl rfl (rdk_one 7 kr (rdo_brk rfl rfl trivial (e_app ttOk rfl rfl rfl rfl rfl rfl rfl (by simp [Entry.nums]) rfl rfl) (rdb_q 8 rfl kr trivial (q_assign rfl) rfl (rdb_endq kr (et (ev_ret (ret_pure' ttOk rfl rfl ?_)))))))))
   first
   | (rw [slotRow_yes h] <;> rfl)
   | (exfalso; simp_all; done)
theorem c_numbersOp (e : Entry) : Pure Tryz.prog 84 [many [iC e.kind, iC e.a, iC e.b, iC e.c, iC e.d]] [one' (intsR 2 [e.kind, e.a, e.b, e.c, e.d])] := by
 refine pure_intro (N := 14) Tryz.func84 rfl rfl rfl rfl (fun H w => ?_)
 refine sq (rg (evl_e (e_box rfl rfl rfl rfl) (xs rfl rfl (nl (et (sq (rg (xf ttOk rfl rfl (xl ttOk rfl rfl (xf ttOk rfl rfl (xl ttOk rfl rfl (xf ttOk rfl rfl (xl ttOk rfl rfl (xf ttOk rfl rfl (xl ttOk rfl rfl (xf ttOk rfl rfl (xl ttOk rfl rfl (evl_e (e_lit ttOk rfl rfl rfl) (xs rfl rfl (nl (et (ev_ret (ret_pure' ttOk rfl rfl ?_)))))))))))))))))))))))
 rfl
theorem c_numbers (e : Entry) : Pure Tryz.prog 56 [many (entryC e)] [one' (intsR 2 e.nums)] := by
 refine pure_intro (N := 22) Tryz.func56 rfl rfl rfl rfl (fun H w => ?_)
 refine sq (rg (evl_e (e_box rfl rfl rfl rfl) (xs rfl rfl (nl (et (sq (rg (xf ttOk rfl rfl (xl ttOk rfl rfl (xf ttOk rfl rfl (xl ttOk rfl rfl (xf ttOk rfl rfl (xl ttOk rfl rfl (xf ttOk rfl rfl (xl ttOk rfl rfl (xf ttOk rfl rfl (xl ttOk rfl rfl (evl_e (e_lit ttOk rfl rfl rfl) (xo (q_build ttOk rfl) rfl (evl_e (e_alloc ttOk rfl rfl rfl rfl) (xst ttOk rfl rfl (nl (et (sq (ev_drawq [5] mo (rk0 0 rfl (q_fieldAddr ttOk rfl) rfl (rk0 1 rfl (q_load ttOk rfl) rfl (rk0 2 rfl (q_fieldAddr ttOk rfl) rfl (rk0 3 rfl (q_load ttOk rfl) rfl (rdk_one 4 kr (rdo_call (nm := 20) rfl trivial (cf rfl) (c_numbersOp e) (rs_of rfl) rfl rfl rfl (rdk_one 5 kr (rdo_brk rfl rfl trivial (e_app ttOk rfl rfl rfl rfl rfl rfl rfl (by simp) rfl rfl) (rdb_q 6 rfl kr trivial (q_assign rfl) rfl (rdb_endq kr (et (ev_ret (ret_pure' ttOk rfl rfl ?_))))))))))))))))))))))))))))))))))))))
 rfl
theorem c_SlotRow' (e : Entry) (h : entryOk e = true) : Pure Tryz.prog 23 [many (entryC e)] [one' (intsR 2 (slotRowF e))] := by
 refine pure_intro (N := 14) Tryz.func23 rfl rfl rfl rfl (fun H w => ?_)
 refine sq (rg (evl_e (e_box rfl rfl rfl rfl) (xs rfl rfl (nl (et (sq (sq (rg (xl ttOk rfl rfl (evl_call (nm := 4) (cf rfl) (c_EntryOk' e) (rs_of rfl) rfl rfl rfl (xo (q_not rfl) rfl (nl (et (ev_cond_n rfl (fun h1 => ?_) (fun h1 => ?_)))))))))))))))
 ·refine sq (rg (xs rfl rfl (nl (et (ev_ret (evr_then (ret_pure' ttOk rfl rfl ?_)))))))
  first
  | (rw [slotRow_yes h] <;> rfl)
  | (exfalso; simp_all; done)
 ·refine ev_skip (et (sq (ev_drawq [7] mo (rk0 0 rfl (q_load ttOk rfl) rfl (rk0 2 rfl (q_fieldAddr ttOk rfl) rfl (rk0 3 rfl (q_load ttOk rfl) rfl (rk0 4 rfl (q_fieldAddr ttOk rfl) rfl (rk0 5 rfl (q_load ttOk rfl) rfl (rdk_two 1 6 kr ?_ ?_)))))))))
  ·refine rdo_call (nm := 7) rfl trivial (cf rfl) (c_numbers e) (rs_of rfl) rfl rfl rfl (rdk_one 6 kr (rdo_new rfl trivial (e_lit ttOk rfl rfl rfl) (rdk_one 7 kr (rdo_brk rfl rfl trivial (e_app ttOk rfl rfl rfl rfl rfl rfl rfl (by simp [Entry.nums]) rfl rfl) (rdb_q 8 rfl kr trivial (q_assign rfl) rfl (rdb_endq kr (et (ev_ret (ret_pure' ttOk rfl rfl ?_)))))))))
   first
   | (rw [slotRow_yes h] <;> rfl)
   | (exfalso; simp_all; done)
  ·refine rdo_new rfl trivial (e_lit ttOk rfl rfl rfl) (rdk_one 1 kr (rdo_call (nm := 7) rfl trivial (cf rfl) (c_numbers e) (rs_of rfl) rfl rfl rfl (rdk_one 7 kr (rdo_brk rfl rfl trivial (e_app ttOk rfl rfl rfl rfl rfl rfl rfl (by simp [Entry.nums]) rfl rfl) (rdb_q 8 rfl kr trivial (q_assign rfl) rfl (rdb_endq kr (et (ev_ret (ret_pure' ttOk rfl rfl ?_)))))))))
   first
   | (rw [slotRow_yes h] <;> rfl)
   | (exfalso; simp_all; done)
end Go.Proofs.YtahkjonokeifmaaGreat
