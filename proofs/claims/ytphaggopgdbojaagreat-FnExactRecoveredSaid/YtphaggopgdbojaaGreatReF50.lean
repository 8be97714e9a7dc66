/- Walks of functions of the program, printed by a program of the prover. -/
import Derived.Test.YtphaggopgdbojaaGreatReF48
import Derived.Test.YtphaggopgdbojaaGreatReVJ
namespace Go.Proofs.YtphaggopgdbojaaGreat
open Go.ChangeShapes Go.WideShapes Go.ChangeAt Go.RowKit
set_option linter.unusedVariables false
set_option linter.unusedSimpArgs false
set_option maxHeartbeats 1000000
set_option maxRecDepth 100000
attribute [local irreducible] EvL Ev EvE Quiet Eff Pure RDk RDb RDo
theorem none_of {α : Type} {o : Option α} (h : o.isSome = false) : o = none := by
  cases o
  · rfl
  · cases h
theorem some_of {α : Type} {o : Option α} {d : α} (h : o.isSome = true) : o = some (o.getD d) := by
  cases o
  · cases h
  · rfl
theorem book_last {b : Book} (hb : bookOk b = true) : 0 ≤ lastB b ∧ lastB b ≤ 2020 := by
  have hbd := book_bd hb
  unfold lastB
  omega
theorem next_list {t : Two} {b : Book} {s : List Mark} (hb : bookOk b = true) : (rightF t (if indexOk (lastB b + 1) then slotF (lastB b + 1) else -1)).findSome? (takeE b s) = nextE t b s := by
  cases hi : indexOk (lastB b + 1)
  · rw [show (if false = true then slotF (lastB b + 1) else (-1 : Int)) = -1 from rfl, right_no2 (by simp [hasAt, inB])]
    refine (List.findSome?_eq_none_iff.2 fun row _ => ?_).symm
    cases h : takeE b s row with
    | none => rfl
    | some e =>
      have h1 := fits_iff.1 (takeE_some h).1
      have h2 := entry_ix h1.1
      have h3 := book_last hb
      have h4 : indexOk (lastB b + 1) = true := inB_iff.2 ⟨by omega, by omega⟩
      rw [hi] at h4; cases h4
  · rfl
section
variable {b : Book} {s : List Mark} {r : List Int}
theorem tk_no1 (h : (rowSlotF r).isSome = false) : takeE b s r = none := by unfold takeE; rw [none_of h]
theorem tk_is (h : (rowSlotF r).isSome = true) : takeE b s r = if ((rowSlotF r).getD noEntry).index = lastB b + 1 ∧ fitsF b ((rowSlotF r).getD noEntry) = true ∧ freshF s ((rowSlotF r).getD noEntry) = true then some ((rowSlotF r).getD noEntry) else none := by
  unfold takeE
  cases hr : rowSlotF r with
  | none => rw [hr] at h; cases h
  | some e => rfl
theorem tk_not (h : ¬ (((rowSlotF r).getD noEntry).index = lastB b + 1 ∧ fitsF b ((rowSlotF r).getD noEntry) = true ∧ freshF s ((rowSlotF r).getD noEntry) = true)) : takeE b s r = none := by
  cases h1 : (rowSlotF r).isSome
  · exact tk_no1 h1
  · rw [tk_is h1, if_neg h]
theorem tk_no2 (h : ((rowSlotF r).getD noEntry).index ≠ lastB b + 1) : takeE b s r = none := tk_not fun hh => h hh.1
theorem tk_no3 (hb : bookOk b = true) (h : (appendedF b ((rowSlotF r).getD noEntry)).2 = false) : takeE b s r = none := tk_not fun hh => by rw [apd_snd hb, hh.2.1] at h; cases h
theorem tk_no4 (hs : seenOk s = true) (h : (markedF s ((rowSlotF r).getD noEntry)).2 = false) : takeE b s r = none := tk_not fun hh => by rw [marked_snd hs, hh.2.2] at h; cases h
theorem tk_no5 (h : fitsF b ((rowSlotF r).getD noEntry) = false) : takeE b s r = none := tk_not fun hh => by rw [hh.2.1] at h; cases h
theorem tk_yes (hb : bookOk b = true) (hs : seenOk s = true) (h1 : (rowSlotF r).isSome = true) (h2 : ((rowSlotF r).getD noEntry).index = lastB b + 1) (h3 : (appendedF b ((rowSlotF r).getD noEntry)).2 = true) (h4 : (markedF s ((rowSlotF r).getD noEntry)).2 = true) : takeE b s r = some ((rowSlotF r).getD noEntry) := by
  rw [apd_snd hb] at h3
  rw [marked_snd hs] at h4
  rw [tk_is h1, if_pos ⟨h2, h3, h4⟩]
end
theorem up_next {t : Two} {h : Head} {k : Nat} {b : Book} {s : List Mark} (hb : bookOk b = true) (hs : seenOk s = true) (hu : (b, s) = bookUp t h k) (hn : (nextE t b s).isSome = true) : appendedF b ((nextE t b s).getD noEntry) = (appF b ((nextE t b s).getD noEntry), true) ∧ (appF b ((nextE t b s).getD noEntry), (markedF s ((nextE t b s).getD noEntry)).1) = bookUp t h (k + 1) := by
  have h1 := some_of (d := noEntry) hn
  have h2 := nextE_some h1
  exact ⟨apd_yes hb h2.1, by rw [mk_yes hs h2.2]; exact up_some hu h1⟩
theorem up_next2 {t : Two} {h : Head} {k : Nat} {b : Book} {s : List Mark} (hb : bookOk b = true) (hs : seenOk s = true) (hu : (b, s) = bookUp t h k) (hl : b.entries.length = k) (hn : (nextE t b s).isSome = true) : ((appendedF b ((nextE t b s).getD noEntry)).1, (markedF s ((nextE t b s).getD noEntry)).1) = bookUp t h (k + 1) ∧ (appendedF b ((nextE t b s).getD noEntry)).1.entries.length = k + 1 := by
  obtain ⟨h1, h2⟩ := up_next hb hs hu hn
  rw [h1]
  exact ⟨h2, by simp [appF, hl]⟩
def clF (b : Book) (s : List Mark) (i : Int) (r : List Int) : Entry × Bool := if (rowSlotF r).isSome && (decide (((rowSlotF r).getD noEntry).index = i) && fitsF b ((rowSlotF r).getD noEntry)) then ((rowSlotF r).getD noEntry, (markedF s ((rowSlotF r).getD noEntry)).2) else (noEntry, false)
section
variable {b : Book} {s : List Mark} {r : List Int} {i : Int}
theorem cl_no1 (h : (rowSlotF r).isSome = false) : clF b s i r = (noEntry, false) := by simp [clF, h]
theorem cl_no2 (h : ((rowSlotF r).getD noEntry).index ≠ i) : clF b s i r = (noEntry, false) := by simp [clF, h]
theorem cl_no3 (h : fitsF b ((rowSlotF r).getD noEntry) = false) : clF b s i r = (noEntry, false) := by simp [clF, h]
theorem cl_yes (h1 : (rowSlotF r).isSome = true) (h2 : ((rowSlotF r).getD noEntry).index = i) (h3 : fitsF b ((rowSlotF r).getD noEntry) = true) : clF b s i r = ((rowSlotF r).getD noEntry, (markedF s ((rowSlotF r).getD noEntry)).2) := by simp [clF, h1, h2, h3]
end
def pickG (g : List Int → Entry × Bool) (r : List Int) : Option Entry := if (g r).2 = true then some (g r).1 else none
theorem pk_no {g : List Int → Entry × Bool} {r : List Int} (h : (g r).2 = false) : pickG g r = none := by simp [pickG, h]
theorem pk_yes {g : List Int → Entry × Bool} {r : List Int} (h : (g r).2 = true) : pickG g r = some (g r).1 := by simp [pickG, h]
theorem pick_eq {b : Book} {s : List Mark} (hs : seenOk s = true) : pickG (clF b s (lastB b + 1)) = takeE b s := funext fun r => by
  cases h1 : (rowSlotF r).isSome
  · rw [tk_no1 h1, pk_no (by rw [cl_no1 h1])]
  · by_cases h2 : ((rowSlotF r).getD noEntry).index = lastB b + 1
    · cases h3 : fitsF b ((rowSlotF r).getD noEntry)
      · rw [tk_no5 h3, pk_no (by rw [cl_no3 h3])]
      · have e := cl_yes (s := s) h1 h2 h3
        cases h4 : (markedF s ((rowSlotF r).getD noEntry)).2
        · rw [tk_no4 hs h4, pk_no (by rw [e]; exact h4)]
        · rw [pk_yes (by rw [e]; exact h4), e, tk_is h1, if_pos ⟨h2, h3, by rw [← marked_snd hs]; exact h4⟩]
    · rw [tk_no2 h2, pk_no (by rw [cl_no2 h2])]
def seenA : Nat → List Mark → AC
  | 0, s => .c (marks s)
  | _ + 1, _ => .rt 102
def seenR : Nat → List Mark → List (Nat × Nat × Nat × List (List C))
  | 0, _ => []
  | _ + 1, s => [(102, 148, 3, s.map markC)]
theorem c_l10Next (t : Two) (b : Book) (s : List Mark) (hb : bookOk b = true) (hs : seenOk s = true) : Pure Tryz.prog 72 [many (twoC t), many (bookC b), one (marks s)] [many' [.v (.int .i64 ((nextE t b s).getD noEntry).index), .v (.int .i64 ((nextE t b s).getD noEntry).time), .v (.int .i64 ((nextE t b s).getD noEntry).client), .v (.int .i64 ((nextE t b s).getD noEntry).seq), .v (.int .i64 ((nextE t b s).getD noEntry).kind), .v (.int .i64 ((nextE t b s).getD noEntry).a), .v (.int .i64 ((nextE t b s).getD noEntry).b), .v (.int .i64 ((nextE t b s).getD noEntry).c), .v (.int .i64 ((nextE t b s).getD noEntry).d)], one' (RC.v (.bool (nextE t b s).isSome))] := by
 refine pure_intro (N := 64) Tryz.func72 rfl rfl rfl rfl (fun H w => ?_)
 have hbl := book_last hb
 obtain ⟨L, hL⟩ : ∃ L, L = rightF t (if indexOk (lastB b + 1) then slotF (lastB b + 1) else -1) := ⟨_, rfl⟩
 have hcr := c_RightAt t (if indexOk (lastB b + 1) then slotF (lastB b + 1) else -1)
 rw [← hL] at hcr
 have hLl : L.length ≤ 2 := by rw [hL]; exact rightF_len _ _
 have hfi : L.findSome? (takeE b s) = nextE t b s := by rw [hL]; exact next_list hb
 refine sq (rg (evl_e (e_box rfl rfl rfl rfl) (evl_e (e_box rfl rfl rfl rfl) (evl_e (e_alloc ttOk rfl rfl rfl rfl) (xs rfl rfl (nl (et (sq (rg ?_)))))))))
 first | refine xo (q_load_pr ttOk rfl rfl rfl rfl (get_map (by omega)) rfl rfl) rfl ?_ | refine xl ttOk rfl rfl ?_
 refine evl_call (nm := 18) (cf rfl) (c_l8Last b hb) (rs_of rfl) rfl rfl rfl (xa rfl rfl rfl (by omega) rfl (xs rfl rfl (nl (et (sq (ev_drawq [] mo ?_))))))
 first | refine rdk_take 0 rfl (by kernel_rfl) trivial (q_load_pr ttOk rfl rfl rfl rfl (get_map (by omega)) rfl rfl) rfl ?_ | refine rdk_take 0 rfl (by kernel_rfl) trivial (q_load ttOk rfl) rfl ?_
 refine rdk_take 1 rfl (by kernel_rfl) trivial (q_move rfl) rfl (rdk_one 2 (by kernel_rfl) (rdo_call (nm := 22) rfl trivial (cf rfl) (c_SlotOf (lastB b + 1)) (rs_of rfl) rfl rfl rfl (rdk_one 3 (by kernel_rfl) (rdo_call (nm := 23) rfl trivial (cf rfl) hcr (rs_of rfl) rfl rfl rfl (rdk_take 4 rfl (by kernel_rfl) trivial (q_assign rfl) rfl (rdk_endq (by kernel_rfl) (et (sq (sq (rg (xs rfl rfl (nl (et (ev_blk (ev_loop (fun j : Nat => (⟨[(10, iV j), (9, .p false [.rt 102]), (8, iV (lastB b + 1)), (2, cV (marks s)), (3, pbV 3 0), (4, pbV 4 0), (6, pbV 6 0)], [(6, 100, [.c (iC 0), .c (iC 0), .c (iC 0), .c (iC 0), .c (iC 0), .c (iC 0), .c (iC 0), .c (iC 0), .c (iC 0)]), (4, 48, [.c (iC b.base), .c (iC b.time), .c (entries b.entries)]), (3, 42, [.c (rows t.a.kept), .c (writes t.a.wait), .c (rows t.b.kept), .c (writes t.b.wait)])], [(102, 72, 1, (L.map fun r => [ints r]))], []⟩ : St)) (fun j => j ≤ L.length ∧ ∀ r ∈ L.take j, takeE b s r = none) (fun j => L.length - j) 0 [(102, 23)] (⟨by simp, by simp⟩) ⟨by (repeat first | exact trivial | refine ⟨rfl, ?_⟩), by (repeat first | exact trivial | refine ⟨rfl, ?_⟩), ⟨⟨_, rfl, by rfl⟩, trivial⟩, by (repeat first | exact trivial | refine ⟨⟨_, rfl, rfl⟩, ?_⟩), rfl⟩ ?_)))))))))))))))
 intro j hp
 obtain ⟨p0, p1⟩ := hp
 show Ev _ _ _ _ (⟨[(10, iV j), (9, .p false [.rt 102]), (8, iV (lastB b + 1)), (2, cV (marks s)), (3, pbV 3 0), (4, pbV 4 0), (6, pbV 6 0)], [(6, 100, [.c (iC 0), .c (iC 0), .c (iC 0), .c (iC 0), .c (iC 0), .c (iC 0), .c (iC 0), .c (iC 0), .c (iC 0)]), (4, 48, [.c (iC b.base), .c (iC b.time), .c (entries b.entries)]), (3, 42, [.c (rows t.a.kept), .c (writes t.a.wait), .c (rows t.b.kept), .c (writes t.b.wait)])], [(102, 72, 1, (L.map fun r => [ints r]))], []⟩ : St)
 refine sq (sq (rg (xm rfl rfl (xm rfl rfl (xo (q_len_rtm ttOk rfl rfl rfl) rfl (xb ttOk rfl rfl (nl (et (ev_cond rfl (fun h1 => ?_) (fun h1 => ?_))))))))))
 · try have d1 := of_decide_eq_true h1
   refine ev_skip (et (sq (ev_blk (sq (rg (xm rfl rfl (xm rfl rfl (xo (q_ix_rt (m := j) ttOk rfl rfl rfl rfl rfl rfl (by simp; omega)) rfl ?_))))))))
   first | refine xo (q_load_pr ttOk rfl rfl rfl rfl (get_map (by omega)) rfl rfl) rfl ?_ | refine xl ttOk rfl rfl ?_
   refine evl_call (nm := 35) (cf rfl) (c_RowSlot _) (rs_sub rfl rfl (get_map (by omega)) rfl) rfl rfl rfl (xm rfl rfl (xo (q_ext rfl) rfl (xo (q_ext rfl) rfl (evl_e (e_alloc ttOk rfl rfl rfl rfl) (xst ttOk rfl rfl (xs rfl rfl (nl (et (sq (sq (rg (xm rfl rfl (xo (q_not rfl) rfl (xm rfl rfl (evl_partn rfl rfl (fun h2 => ?_) (fun h2 => ?_))))))))))))))))
   · try have d2 := of_decide_eq_false h2
     refine gn (nt h2) rfl rfl rfl (gn (nt h2) rfl rfl rfl (gn (nt h2) rfl rfl rfl (gn (nt h2) rfl rfl rfl (xo (q_pick_t rfl (nt h2) rfl) rfl (nl (et (ev_cond_kt rfl rfl (ev_exit (evx_then (evx_hit (et (rg (xm rfl rfl (xa rfl rfl rfl (by omega) rfl (xs rfl rfl (nl (eve_round (j + 1) [] ?hp ⟨by (repeat first | exact trivial | refine ⟨rfl, ?_⟩), by (repeat first | exact trivial | refine ⟨rfl, ?_⟩), ⟨⟨_, rfl, by rfl⟩, trivial⟩, by (repeat first | exact trivial | refine ⟨⟨_, rfl, rfl⟩, ?_⟩), rfl⟩)))))))))))))))))
     case hp => exact ⟨⟨by omega, all_takeP (by omega) p1 (by first | exact tk_no1 (by assumption) | exact tk_no2 (by assumption) | exact tk_no3 hb (by assumption) | exact tk_no4 hs (by assumption))⟩, by omega⟩
   · try have d2 := of_decide_eq_true h2
     refine go (nf h2) rfl rfl (q_fieldAddr ttOk rfl) rfl ?_
     first | refine go (nf h2) rfl rfl (q_load_pr ttOk rfl rfl rfl rfl (get_map (by omega)) rfl rfl) rfl ?_ | refine go (nf h2) rfl rfl (q_load ttOk rfl) rfl ?_
     refine gm (nf h2) rfl rfl rfl rfl (go (nf h2) rfl rfl (q_bin ttOk rfl) rfl (xo (q_pick_f rfl (nf h2) rfl) rfl (nl (et (ev_cond rfl (fun h3 => ?_) (fun h3 => ?_))))))
     · try have d3 := of_decide_eq_true h3
       refine ev_exit (evx_then (evx_hit (et (rg (xm rfl rfl (xa rfl rfl rfl (by omega) rfl (xs rfl rfl (nl (eve_round (j + 1) [] ?hp ⟨by (repeat first | exact trivial | refine ⟨rfl, ?_⟩), by (repeat first | exact trivial | refine ⟨rfl, ?_⟩), ⟨⟨_, rfl, by rfl⟩, trivial⟩, by (repeat first | exact trivial | refine ⟨⟨_, rfl, rfl⟩, ?_⟩), rfl⟩)))))))))
       case hp => exact ⟨⟨by omega, all_takeP (by omega) p1 (by first | exact tk_no1 (by assumption) | exact tk_no2 (by assumption) | exact tk_no3 hb (by assumption) | exact tk_no4 hs (by assumption))⟩, by omega⟩
     · try have d3 := of_decide_eq_false h3
       refine ev_skip (et (sq (rg ?_)))
       first | refine xo (q_load_pr ttOk rfl rfl rfl rfl (get_map (by omega)) rfl rfl) rfl ?_ | refine xl ttOk rfl rfl ?_
       first | refine xo (q_load_pr ttOk rfl rfl rfl rfl (get_map (by omega)) rfl rfl) rfl ?_ | refine xl ttOk rfl rfl ?_
       refine evl_call (nm := 49) (cf rfl) (c_Appended b ((rowSlotF (L[j]'(by omega))).getD noEntry)) (rs_of rfl) rfl rfl rfl (xm rfl rfl (xo (q_ext rfl) rfl (xo (q_ext rfl) rfl (evl_e (e_alloc ttOk rfl rfl rfl rfl) (xst ttOk rfl rfl (xs rfl rfl (nl (et (sq (rg (xm rfl rfl ?_)))))))))))
       first | refine xo (q_load_pr ttOk rfl rfl rfl rfl (get_map (by omega)) rfl rfl) rfl ?_ | refine xl ttOk rfl rfl ?_
       refine evl_call (nm := 55) (cf rfl) (c_Marked s ((rowSlotF (L[j]'(by omega))).getD noEntry)) (rs_of rfl) rfl rfl rfl (xm rfl rfl (xo (q_ext rfl) rfl (xo (q_ext rfl) rfl (xs rfl rfl (xs rfl rfl (nl (et (sq (rg (xm rfl rfl (xm rfl rfl (evl_part rfl rfl (fun h4 => ?_) (fun h4 => ?_)))))))))))))
       · try have d4 := of_decide_eq_true h4
         refine gm h4 rfl rfl rfl rfl (xo (q_pick_t rfl h4 rfl) rfl (nl (et (ev_cond rfl (fun h5 => ?_) (fun h5 => ?_)))))
         · try have d5 := of_decide_eq_true h5
           refine sq (rg ?_)
           first | refine xo (q_load_pr ttOk rfl rfl rfl rfl (get_map (by omega)) rfl rfl) rfl ?_ | refine xl ttOk rfl rfl ?_
           refine xst ttOk rfl rfl (xs rfl rfl (nl (et (ev_ret (evr_blk (evr_then (evr_then (evr_blk (evr_then (ret_pure' ttOk rfl rfl ?_))))))))))
           first
           | (rw [← hfi, find_end (j := j) (by omega) p1] <;> rfl)
           | (rw [← hfi, find_at (j := j) (by omega) p1 (tk_yes hb hs (by assumption) (Decidable.not_not.1 (by assumption)) (by assumption) (by assumption))] <;> rfl)
         · try have d5 := of_decide_eq_false h5
           refine ev_skip (eb (et (rg (xm rfl rfl (xa rfl rfl rfl (by omega) rfl (xs rfl rfl (nl (eve_round (j + 1) [] ?hp ⟨by (repeat first | exact trivial | refine ⟨rfl, ?_⟩), by (repeat first | exact trivial | refine ⟨rfl, ?_⟩), ⟨⟨_, rfl, by rfl⟩, trivial⟩, by (repeat first | exact trivial | refine ⟨⟨_, rfl, rfl⟩, ?_⟩), rfl⟩))))))))
           case hp => exact ⟨⟨by omega, all_takeP (by omega) p1 (by first | exact tk_no1 (by assumption) | exact tk_no2 (by assumption) | exact tk_no3 hb (by assumption) | exact tk_no4 hs (by assumption))⟩, by omega⟩
       · try have d4 := of_decide_eq_false h4
         refine gn h4 rfl rfl rfl (xo (q_pick_f rfl h4 rfl) rfl (nl (et (ev_cond_kf rfl rfl (ev_skip (eb (et (rg (xm rfl rfl (xa rfl rfl rfl (by omega) rfl (xs rfl rfl (nl (eve_round (j + 1) [] ?hp ⟨by (repeat first | exact trivial | refine ⟨rfl, ?_⟩), by (repeat first | exact trivial | refine ⟨rfl, ?_⟩), ⟨⟨_, rfl, by rfl⟩, trivial⟩, by (repeat first | exact trivial | refine ⟨⟨_, rfl, rfl⟩, ?_⟩), rfl⟩)))))))))))))
         case hp => exact ⟨⟨by omega, all_takeP (by omega) p1 (by first | exact tk_no1 (by assumption) | exact tk_no2 (by assumption) | exact tk_no3 hb (by assumption) | exact tk_no4 hs (by assumption))⟩, by omega⟩
 · try have d1 := of_decide_eq_false h1
   refine ev_exit (evx_then (evx_then (evx_hit (et (sq (rg (xo (q_build ttOk rfl) rfl (xst ttOk rfl rfl (xs rfl rfl (nl (et (ev_ret (ret_pure' ttOk rfl rfl ?_)))))))))))))
   first
   | (rw [← hfi, find_end (j := j) (by omega) p1] <;> rfl)
   | (rw [← hfi, find_at (j := j) (by omega) p1 (tk_yes hb hs (by assumption) (Decidable.not_not.1 (by assumption)) (by assumption) (by assumption))] <;> rfl)
theorem c_BookIn (t : Two) (h : Head) : Pure Tryz.prog 20 [many (twoC t), many (headC h)] [many' (bookR (bookInF t h))] := by
 refine pure_intro (N := 48) Tryz.func20 rfl rfl rfl rfl (fun H w => ?_)
 refine sq (rg (evl_e (e_box rfl rfl rfl rfl) (evl_e (e_box rfl rfl rfl rfl) (evl_e (e_alloc ttOk rfl rfl rfl rfl) (nl (et (sq (sq (rg (xl ttOk rfl rfl (evl_call (nm := 10) (cf rfl) (c_KeptOk t) (rs_of rfl) rfl rfl rfl (xo (q_not rfl) rfl (xm rfl rfl (evl_partn rfl rfl (fun h1 => ?_) (fun h1 => ?_)))))))))))))))
 · refine gn (nt h1) rfl rfl rfl (gn (nt h1) rfl rfl rfl (gn (nt h1) rfl rfl rfl (xo (q_pick_t rfl (nt h1) rfl) rfl (nl (et (ev_cond_kt rfl rfl (sq (rg (xo (q_build ttOk rfl) rfl (xst ttOk rfl rfl (nl (et (ev_ret (evr_then (ret_pureN ttOk rfl rfl ?_)))))))))))))))
   first
   | (rw [bi_no1 (by assumption)]; simp [RpLe, L2, RcLe]; done)
   | (rw [bi_no2 (by assumption)]; simp [RpLe, L2, RcLe]; done)
   | (rw [bi_yes (by assumption) (by assumption) p0 (by omega) (none_of (by assumption))]; simp [RpLe, L2, RcLe]; done)
 · refine go (nf h1) rfl rfl (q_load ttOk rfl) rfl (evl_callg rfl rfl (nf h1) (nm := 14) (cf rfl) (c_HeadOk h) (rs_of rfl) rfl rfl rfl (go (nf h1) rfl rfl (q_not rfl) rfl (xo (q_pick_f rfl (nf h1) rfl) rfl (nl (et (ev_cond_n rfl (fun h2 => ?_) (fun h2 => ?_)))))))
   · refine sq (rg (xo (q_build ttOk rfl) rfl (xst ttOk rfl rfl (nl (et (ev_ret (evr_then (ret_pureN ttOk rfl rfl ?_))))))))
     first
     | (rw [bi_no1 (by assumption)]; simp [RpLe, L2, RcLe]; done)
     | (rw [bi_no2 (by assumption)]; simp [RpLe, L2, RcLe]; done)
     | (rw [bi_yes (by assumption) (by assumption) p0 (by omega) (none_of (by assumption))]; simp [RpLe, L2, RcLe]; done)
   · have hhd := head_bd (show headOk h = true by assumption)
     have hsl0 := seen_len hhd.2.2.2.2
     refine ev_skip (et (sq (rg (xf ttOk rfl rfl (xl ttOk rfl rfl (xf ttOk rfl rfl (xl ttOk rfl rfl (xo (q_build ttOk rfl) rfl (evl_e (e_alloc ttOk rfl rfl rfl rfl) (xst ttOk rfl rfl (nl (et (sq (rg (xf ttOk rfl rfl (xl ttOk rfl rfl (evl_call (nm := 25) (cf rfl) (c_l9Copy h.seen (by omega)) (rs_of rfl) rfl rfl rfl (xs rfl rfl (nl (et (ev_adopt (b := 5) 2 101 100 9 rfl rfl rfl rfl rfl (ev_blk (ev_loop (fun i : Nat × Book × List Mark => (⟨[(6, .p false [.rt 102]), (2, pbV 2 0), (4, pbV 4 0), (5, pbV 5 0)], [(5, 48, [.c (iC i.2.1.base), .c (iC i.2.1.time), .rt 101]), (4, 48, [.c (iC 0), .c (iC 0), .c .nil]), (2, 42, [.c (rows t.a.kept), .c (writes t.a.wait), .c (rows t.b.kept), .c (writes t.b.wait)])], [(101, 100, 9, (i.2.1.entries.map entryC)), (102, 148, 3, (i.2.2.map markC))], []⟩ : St)) (fun i => (i.2.1, i.2.2) = bookUp t h i.1 ∧ i.2.1.entries.length = i.1) (fun i => 21 - i.1) (0, ⟨h.base, h.time, []⟩, h.seen) [(102, 25)] (⟨rfl, rfl⟩) ⟨by (repeat first | exact trivial | refine ⟨rfl, ?_⟩), by (repeat first | exact trivial | refine ⟨rfl, ?_⟩), ⟨⟨_, rfl, by rfl⟩, ⟨_, rfl, by rfl⟩, trivial⟩, by (repeat first | exact trivial | refine ⟨⟨_, rfl, rfl⟩, ?_⟩), rfl⟩ ?_)))))))))))))))))))))))
     intro i hp
     obtain ⟨k, bk, sn⟩ := i
     have hp : (bk, sn) = bookUp t h k ∧ bk.entries.length = k := hp
     obtain ⟨p0, p1⟩ := hp
     show Ev _ _ _ _ (⟨[(6, .p false [.rt 102]), (2, pbV 2 0), (4, pbV 4 0), (5, pbV 5 0)], [(5, 48, [.c (iC bk.base), .c (iC bk.time), .rt 101]), (4, 48, [.c (iC 0), .c (iC 0), .c .nil]), (2, 42, [.c (rows t.a.kept), .c (writes t.a.wait), .c (rows t.b.kept), .c (writes t.b.wait)])], [(101, 100, 9, (bk.entries.map entryC)), (102, 148, 3, (sn.map markC))], []⟩ : St)
     have hup := up_ok (t := t) (h := h) (by assumption) k
     rw [← p0] at hup
     have hup : bookOk bk = true ∧ seenOk sn = true ∧ bk.entries.length ≤ k := hup
     have hbd := book_bd hup.1
     have hbl := book_last hup.1
     have hsl := seen_len hup.2.1
     refine ev_blk (sq (rg (xl ttOk rfl rfl (xl ttOk rfl rfl (xm rfl rfl (evl_call (nm := 30) (cf rfl) (c_l10Next t bk sn hup.1 hup.2.1) (rs_of rfl) rfl rfl rfl (xm rfl rfl (xo (q_ext rfl) rfl (xo (q_ext rfl) rfl (evl_e (e_alloc ttOk rfl rfl rfl rfl) (xst ttOk rfl rfl (xs rfl rfl (nl (et (sq (sq (rg (xm rfl rfl (xo (q_not rfl) rfl (nl (et (ev_cond_n rfl (fun h3 => ?_) (fun h3 => ?_)))))))))))))))))))))))
     · refine sq (rg (xl ttOk rfl rfl (xst ttOk rfl rfl (nl (et (ev_ret (evr_then (evr_blk (evr_then (evr_blk (ret_pureN ttOk rfl rfl ?_)))))))))))
       first
       | (rw [bi_no1 (by assumption)]; simp [RpLe, L2, RcLe]; done)
       | (rw [bi_no2 (by assumption)]; simp [RpLe, L2, RcLe]; done)
       | (rw [bi_yes (by assumption) (by assumption) p0 (by omega) (none_of (by assumption))]; simp [RpLe, L2, RcLe]; done)
     · refine ev_skip (et (sq (rg (xl ttOk rfl rfl (xl ttOk rfl rfl (evl_call (nm := 39) (cf rfl) (c_Appended bk ((nextE t bk sn).getD noEntry)) (rs_of rfl) rfl rfl rfl (xm rfl rfl (xo (q_ext rfl) rfl (xo (q_ext rfl) rfl (xst ttOk rfl rfl (nl (et (rg (xm rfl rfl (xl ttOk rfl rfl (evl_call (nm := 45) (cf rfl) (c_Marked sn ((nextE t bk sn).getD noEntry)) (rs_of rfl) rfl rfl rfl (xm rfl rfl (xo (q_ext rfl) rfl (xo (q_ext rfl) rfl (xs rfl rfl (nl (eb (eve_round (k + 1, (appendedF bk ((nextE t bk sn).getD noEntry)).1, (markedF sn ((nextE t bk sn).getD noEntry)).1) [(101, 39), (102, 45)] ?hp ⟨by (repeat first | exact trivial | refine ⟨rfl, ?_⟩), by (repeat first | exact trivial | refine ⟨rfl, ?_⟩), ⟨⟨_, rfl, by rfl⟩, ⟨_, rfl, by rfl⟩, trivial⟩, by (repeat first | exact trivial | refine ⟨⟨_, rfl, rfl⟩, ?_⟩), rfl⟩)))))))))))))))))))))))
       have hun := up_next2 hup.1 hup.2.1 p0 p1 (by assumption)
       case hp => exact ⟨hun, by omega⟩
theorem c_BookIn1 (b : Book) (s : List Mark) (i : Int) (hb : bookOk b = true) (r : List Int) : CFn Tryz.prog 80 [one (ints r)] [[iC i], bookC b, [marks s]] [many' [.v (.int .i64 ((clF b s i r).1).index), .v (.int .i64 ((clF b s i r).1).time), .v (.int .i64 ((clF b s i r).1).client), .v (.int .i64 ((clF b s i r).1).seq), .v (.int .i64 ((clF b s i r).1).kind), .v (.int .i64 ((clF b s i r).1).a), .v (.int .i64 ((clF b s i r).1).b), .v (.int .i64 ((clF b s i r).1).c), .v (.int .i64 ((clF b s i r).1).d)], one' (RC.v (.bool (clF b s i r).2))] := by
 refine cfn_intro (N := 39) Tryz.func80 rfl rfl rfl rfl rfl (fun H w => ?_)
 refine sq (rg (evl_e (e_alloc ttOk rfl rfl rfl rfl) (xs rfl rfl (nl (et (sq (rg (xm rfl rfl (evl_call (nm := 13) (cf rfl) (c_RowSlot' r) (rs_of rfl) rfl rfl rfl (xm rfl rfl (xo (q_ext rfl) rfl (xo (q_ext rfl) rfl (evl_e (e_alloc ttOk rfl rfl rfl rfl) (xst ttOk rfl rfl (xs rfl rfl (nl (et (sq (sq (rg (xm rfl rfl (xo (q_not rfl) rfl (xm rfl rfl (evl_partn rfl rfl (fun h1 => ?_) (fun h1 => ?_)))))))))))))))))))))))))
 · try have d1 := of_decide_eq_false h1
   refine gn (nt h1) rfl rfl rfl (gn (nt h1) rfl rfl rfl (gn (nt h1) rfl rfl rfl (gn (nt h1) rfl rfl rfl (xo (q_pick_t rfl (nt h1) rfl) rfl (xm rfl rfl (gn rfl rfl rfl rfl (gn rfl rfl rfl rfl (gn rfl rfl rfl rfl (gn rfl rfl rfl rfl (xo (q_pick_t rfl rfl rfl) rfl (nl (et (ev_cond_kt rfl rfl (sq (rg (xo (q_build ttOk rfl) rfl (xst ttOk rfl rfl (xs rfl rfl (nl (et (ev_ret (evr_then (ret_pure' ttOk rfl rfl ?_)))))))))))))))))))))))
   first
   | (rw [cl_no1 (by assumption)] <;> rfl)
   | (rw [cl_no2 (by assumption)] <;> rfl)
   | (rw [cl_no3 (by assumption)] <;> rfl)
   | (rw [cl_yes (by assumption) (Decidable.not_not.1 (by assumption)) (by assumption)] <;> rfl)
 · try have d1 := of_decide_eq_true h1
   refine go (nf h1) rfl rfl (q_fieldAddr ttOk rfl) rfl (go (nf h1) rfl rfl (q_load ttOk rfl) rfl (go (nf h1) rfl rfl (q_load ttOk rfl) rfl (go (nf h1) rfl rfl (q_bin ttOk rfl) rfl (xo (q_pick_f rfl (nf h1) rfl) rfl (xm rfl rfl (evl_part rfl rfl (fun h2 => ?_) (fun h2 => ?_)))))))
   · try have d2 := of_decide_eq_true h2
     refine gn h2 rfl rfl rfl (gn h2 rfl rfl rfl (gn h2 rfl rfl rfl (gn h2 rfl rfl rfl (xo (q_pick_t rfl h2 rfl) rfl (nl (et (ev_cond_kt rfl rfl (sq (rg (xo (q_build ttOk rfl) rfl (xst ttOk rfl rfl (xs rfl rfl (nl (et (ev_ret (evr_then (ret_pure' ttOk rfl rfl ?_)))))))))))))))))
     first
     | (rw [cl_no1 (by assumption)] <;> rfl)
     | (rw [cl_no2 (by assumption)] <;> rfl)
     | (rw [cl_no3 (by assumption)] <;> rfl)
     | (rw [cl_yes (by assumption) (Decidable.not_not.1 (by assumption)) (by assumption)] <;> rfl)
   · try have d2 := of_decide_eq_false h2
     refine go h2 rfl rfl (q_load ttOk rfl) rfl (go h2 rfl rfl (q_load ttOk rfl) rfl (evl_callg rfl rfl h2 (nm := 27) (cf rfl) (c_fits b ((rowSlotF r).getD noEntry) hb) (rs_of rfl) rfl rfl rfl (go h2 rfl rfl (q_not rfl) rfl (xo (q_pick_f rfl h2 rfl) rfl (nl (et (ev_cond_n rfl (fun h3 => ?_) (fun h3 => ?_))))))))
     · try have d3 := of_decide_eq_false h3
       refine sq (rg (xo (q_build ttOk rfl) rfl (xst ttOk rfl rfl (xs rfl rfl (nl (et (ev_ret (evr_then (ret_pure' ttOk rfl rfl ?_)))))))))
       first
       | (rw [cl_no1 (by assumption)] <;> rfl)
       | (rw [cl_no2 (by assumption)] <;> rfl)
       | (rw [cl_no3 (by assumption)] <;> rfl)
       | (rw [cl_yes (by assumption) (Decidable.not_not.1 (by assumption)) (by assumption)] <;> rfl)
     · try have d3 := of_decide_eq_true h3
       refine ev_skip (et (sq (rg (xl ttOk rfl rfl (xl ttOk rfl rfl (evl_call (nm := 34) (cf rfl) (c_Marked' s ((rowSlotF r).getD noEntry)) (rs_of rfl) rfl rfl rfl (xm rfl rfl (xo (q_ext rfl) rfl (xo (q_ext rfl) rfl (xs rfl rfl (xs rfl rfl (nl (et (sq (rg (xl ttOk rfl rfl (xm rfl rfl (xst ttOk rfl rfl (xs rfl rfl (nl (et (ev_ret (ret_pure' ttOk rfl rfl ?_)))))))))))))))))))))))
       first
       | (rw [cl_no1 (by assumption)] <;> rfl)
       | (rw [cl_no2 (by assumption)] <;> rfl)
       | (rw [cl_no3 (by assumption)] <;> rfl)
       | (rw [cl_yes (by assumption) (Decidable.not_not.1 (by assumption)) (by assumption)] <;> rfl)
theorem c_firstIn (t : Two) (b : Book) (s : List Mark) (hs : seenOk s = true) : PureF Tryz.prog 78 [many (twoC t), one (iC (slotF (lastB b + 1)))] (fun r : List Int => [one (ints r)]) (fun r : List Int => [many' [.v (.int .i64 ((clF b s (lastB b + 1) r).1).index), .v (.int .i64 ((clF b s (lastB b + 1) r).1).time), .v (.int .i64 ((clF b s (lastB b + 1) r).1).client), .v (.int .i64 ((clF b s (lastB b + 1) r).1).seq), .v (.int .i64 ((clF b s (lastB b + 1) r).1).kind), .v (.int .i64 ((clF b s (lastB b + 1) r).1).a), .v (.int .i64 ((clF b s (lastB b + 1) r).1).b), .v (.int .i64 ((clF b s (lastB b + 1) r).1).c), .v (.int .i64 ((clF b s (lastB b + 1) r).1).d)], one' (RC.v (.bool (clF b s (lastB b + 1) r).2))]) [many' [.v (.int .i64 ((nextE t b s).getD noEntry).index), .v (.int .i64 ((nextE t b s).getD noEntry).time), .v (.int .i64 ((nextE t b s).getD noEntry).client), .v (.int .i64 ((nextE t b s).getD noEntry).seq), .v (.int .i64 ((nextE t b s).getD noEntry).kind), .v (.int .i64 ((nextE t b s).getD noEntry).a), .v (.int .i64 ((nextE t b s).getD noEntry).b), .v (.int .i64 ((nextE t b s).getD noEntry).c), .v (.int .i64 ((nextE t b s).getD noEntry).d)], one' (RC.v (.bool (nextE t b s).isSome))] := by
 obtain ⟨g, hg⟩ : ∃ g, g = clF b s (lastB b + 1) := ⟨_, rfl⟩
 obtain ⟨L, hL⟩ : ∃ L, L = rightF t (slotF (lastB b + 1)) := ⟨_, rfl⟩
 have hcr := c_RightAt' t (slotF (lastB b + 1))
 rw [← hL] at hcr
 have hLl : L.length ≤ 2 := by rw [hL]; exact rightF_len _ _
 have hfi : L.findSome? (pickG g) = nextE t b s := by rw [hL, hg, pick_eq hs]; rfl
 rw [← hg]
 refine puref_intro (N := 31) Tryz.func78 rfl rfl rfl rfl (fun v => rfl) (fun H w v hfn => ?_)
 refine sq (rg (evl_e (e_box rfl rfl rfl rfl) (evl_e (e_alloc ttOk rfl rfl rfl rfl) (xs rfl rfl (nl (et (sq (sq (rg ?_)))))))))
 first | refine xo (q_load_pr ttOk rfl rfl rfl rfl (get_map (by omega)) rfl rfl) rfl ?_ | refine xl ttOk rfl rfl ?_
 refine xm rfl rfl (evl_call (nm := 15) (cf rfl) hcr (rs_of rfl) rfl rfl rfl (xo (q_len_rtm ttOk rfl rfl rfl) rfl (xm rfl rfl (nl (et (ev_blk (ev_loop (fun j : Nat => (⟨[(17, iV j), (15, .p false [.rt 102]), (16, iV L.length), (2, .p false [.c (.v v)]), (3, pbV 3 0), (6, pbV 6 0)], [(6, 100, [.c (iC 0), .c (iC 0), .c (iC 0), .c (iC 0), .c (iC 0), .c (iC 0), .c (iC 0), .c (iC 0), .c (iC 0)]), (3, 42, [.c (rows t.a.kept), .c (writes t.a.wait), .c (rows t.b.kept), .c (writes t.b.wait)])], [(102, 72, 1, (L.map fun r => [ints r]))], []⟩ : St)) (fun j => j ≤ L.length ∧ ∀ r ∈ L.take j, pickG g r = none) (fun j => L.length - j) 0 [(102, 15)] (⟨by simp, by simp⟩) ⟨by (repeat first | exact trivial | refine ⟨rfl, ?_⟩), by (repeat first | exact trivial | refine ⟨rfl, ?_⟩), ⟨⟨_, rfl, by rfl⟩, trivial⟩, by (repeat first | exact trivial | refine ⟨⟨_, rfl, rfl⟩, ?_⟩), rfl⟩ ?_)))))))
 intro j hp
 obtain ⟨p0, p1⟩ := hp
 show Ev _ _ _ _ (⟨[(17, iV j), (15, .p false [.rt 102]), (16, iV L.length), (2, .p false [.c (.v v)]), (3, pbV 3 0), (6, pbV 6 0)], [(6, 100, [.c (iC 0), .c (iC 0), .c (iC 0), .c (iC 0), .c (iC 0), .c (iC 0), .c (iC 0), .c (iC 0), .c (iC 0)]), (3, 42, [.c (rows t.a.kept), .c (writes t.a.wait), .c (rows t.b.kept), .c (writes t.b.wait)])], [(102, 72, 1, (L.map fun r => [ints r]))], []⟩ : St)
 refine sq (rg (xb ttOk rfl rfl (nl (et (sq (ev_cond rfl (fun h1 => ?_) (fun h1 => ?_)))))))
 · try have d1 := of_decide_eq_true h1
   refine ev_skip (et (sq (ev_blk (sq (rg (xo (q_ix_rt (m := j) ttOk rfl rfl rfl rfl rfl rfl (by simp; omega)) rfl ?_))))))
   first | refine xo (q_load_pr ttOk rfl rfl rfl rfl (get_map (by omega)) rfl rfl) rfl ?_ | refine xl ttOk rfl rfl ?_
   refine xs rfl rfl (nl (et (sq (rg (xm rfl rfl (xm rfl rfl (evl_callf (nm := 24) (L[j]'(by omega)) rfl hfn (rs_sub rfl rfl (get_map (by omega)) rfl) rfl rfl rfl (xm rfl rfl (xo (q_ext rfl) rfl (xo (q_ext rfl) rfl (evl_e (e_alloc ttOk rfl rfl rfl rfl) (xst ttOk rfl rfl (xs rfl rfl (nl (et (sq (rg (xm rfl rfl (nl (et (ev_cond rfl (fun h2 => ?_) (fun h2 => ?_))))))))))))))))))))))
   · try have d2 := of_decide_eq_true h2
     refine sq (rg ?_)
     first | refine xo (q_load_pr ttOk rfl rfl rfl rfl (get_map (by omega)) rfl rfl) rfl ?_ | refine xl ttOk rfl rfl ?_
     refine xst ttOk rfl rfl (xs rfl rfl (nl (et (ev_ret (evr_blk (evr_then (evr_then (evr_blk (evr_then (ret_pure' ttOk rfl rfl ?_))))))))))
     first
     | (rw [← hfi, find_end (j := j) (by omega) p1] <;> rfl)
     | (rw [← hfi, find_at (j := j) (by omega) p1 (pk_yes (by assumption))] <;> rfl)
   · try have d2 := of_decide_eq_false h2
     refine ev_skip (eb (et (rg (xa rfl rfl rfl (by omega) rfl (xm rfl rfl (nl (eve_round (j + 1) [] ?hp ⟨by (repeat first | exact trivial | refine ⟨rfl, ?_⟩), by (repeat first | exact trivial | refine ⟨rfl, ?_⟩), ⟨⟨_, rfl, by rfl⟩, trivial⟩, by (repeat first | exact trivial | refine ⟨⟨_, rfl, rfl⟩, ?_⟩), rfl⟩)))))))
     case hp => exact ⟨⟨by omega, all_takeP (by omega) p1 (pk_no (by assumption))⟩, by omega⟩
 · try have d1 := of_decide_eq_false h1
   refine ev_exit (evx_then (evx_then (evx_hit (et (sq (rg (evl_e (e_alloc ttOk rfl rfl rfl rfl) (nl (et (sq (rg ?_)))))))))))
   first | refine xo (q_load_pr ttOk rfl rfl rfl rfl (get_map (by omega)) rfl rfl) rfl ?_ | refine xl ttOk rfl rfl ?_
   refine xst ttOk rfl rfl (xs rfl rfl (nl (et (ev_ret (ret_pure' ttOk rfl rfl ?_)))))
   first
   | (rw [← hfi, find_end (j := j) (by omega) p1] <;> rfl)
   | (rw [← hfi, find_at (j := j) (by omega) p1 (pk_yes (by assumption))] <;> rfl)
theorem c_BookIn' (t : Two) (h : Head) : Pure Tryz.prog 23 [many (twoC t), many (headC h)] [many' (bookR (bookInF t h))] := by
 refine pure_intro (N := 52) Tryz.func23 rfl rfl rfl rfl (fun H w => ?_)
 refine sq (rg (evl_e (e_box rfl rfl rfl rfl) (evl_e (e_box rfl rfl rfl rfl) (evl_e (e_alloc ttOk rfl rfl rfl rfl) (nl (et (sq (sq (rg (xl ttOk rfl rfl (evl_call (nm := 11) (cf rfl) (c_KeptOk' t) (rs_of rfl) rfl rfl rfl (xo (q_not rfl) rfl (xm rfl rfl (evl_partn rfl rfl (fun h1 => ?_) (fun h1 => ?_)))))))))))))))
 · refine gn (nt h1) rfl rfl rfl (gn (nt h1) rfl rfl rfl (gn (nt h1) rfl rfl rfl (xo (q_pick_t rfl (nt h1) rfl) rfl (nl (et (ev_cond_kt rfl rfl (sq (rg (xo (q_build ttOk rfl) rfl (xst ttOk rfl rfl (nl (et (ev_ret (evr_then (ret_pureN ttOk rfl rfl ?_)))))))))))))))
   first
   | (rw [bi_no1 (by assumption)]; simp [RpLe, L2, RcLe]; done)
   | (rw [bi_no2 (by assumption)]; simp [RpLe, L2, RcLe]; done)
   | (rw [bi_yes (by assumption) (by assumption) p0 (by omega) (none_of (by assumption))]; simp [RpLe, L2, RcLe]; done)
 · refine go (nf h1) rfl rfl (q_load ttOk rfl) rfl (evl_callg rfl rfl (nf h1) (nm := 15) (cf rfl) (c_HeadOk' h) (rs_of rfl) rfl rfl rfl (go (nf h1) rfl rfl (q_not rfl) rfl (xo (q_pick_f rfl (nf h1) rfl) rfl (nl (et (ev_cond_n rfl (fun h2 => ?_) (fun h2 => ?_)))))))
   · refine sq (rg (xo (q_build ttOk rfl) rfl (xst ttOk rfl rfl (nl (et (ev_ret (evr_then (ret_pureN ttOk rfl rfl ?_))))))))
     first
     | (rw [bi_no1 (by assumption)]; simp [RpLe, L2, RcLe]; done)
     | (rw [bi_no2 (by assumption)]; simp [RpLe, L2, RcLe]; done)
     | (rw [bi_yes (by assumption) (by assumption) p0 (by omega) (none_of (by assumption))]; simp [RpLe, L2, RcLe]; done)
   · have hhd := head_bd (show headOk h = true by assumption)
     have hsl0 := seen_len hhd.2.2.2.2
     refine ev_skip (et (sq (ev_frz (cs := headC h) 3 rfl rfl rfl (fun HF3 hHF3 => ?_))))
     refine' ev_drawhJ mo ?hdr1 ?kdr1
     case hdr1 =>
       refine rdh_take 0 rfl (by kernel_rfl) trivial (QuietW.h (qw_fieldAddr ttOk rfl)) rfl (rdh_take 1 rfl (by kernel_rfl) trivial (q_loadH ttOk rfl rfl) rfl (rdh_take 2 rfl (by kernel_rfl) trivial (QuietW.h (qw_fieldAddr ttOk rfl)) rfl (rdh_take 3 rfl (by kernel_rfl) trivial (q_loadH ttOk rfl rfl) rfl (rdh_take 5 rfl (by kernel_rfl) trivial (QuietW.h (qw_fieldAddr ttOk rfl)) rfl (rdh_take 6 rfl (by kernel_rfl) trivial (q_loadH ttOk rfl rfl) rfl (rdh_3 4 7 8 (by kernel_rfl) ?_ ?_ ?_))))))
       · refine rdho_q rfl trivial (q_build ttOk rfl) rfl (rdh_2 7 8 (by kernel_rfl) ?_ ?_)
         · refine rdho_eff rfl trivial (e_alloc ttOk rfl rfl rfl rfl) (rdh_1 8 (by kernel_rfl) (rdho_eff rfl trivial (e_alloc ttOk rfl rfl rfl rfl) (rdh_1 9 (by kernel_rfl) (rdho_eff rfl trivial (e_store ttOk rfl) (rdh_1 10 (by kernel_rfl) (rdho_eff rfl trivial (e_store ttOk rfl) ?_))))))
           exact rdh_fin (by kernel_rfl)
         · refine rdho_eff rfl trivial (e_alloc ttOk rfl rfl rfl rfl) (rdh_1 7 (by kernel_rfl) (rdho_eff rfl trivial (e_alloc ttOk rfl rfl rfl rfl) (rdh_1 9 (by kernel_rfl) (rdho_eff rfl trivial (e_store ttOk rfl) (rdh_1 10 (by kernel_rfl) (rdho_eff rfl trivial (e_store ttOk rfl) ?_))))))
           exact rdh_le [] (by kernel_rfl) ⟨by (repeat first | exact trivial | refine ⟨rfl, ?_⟩), by (repeat first | exact trivial | refine ⟨rfl, ?_⟩), by (repeat first | exact trivial | refine ⟨⟨_, rfl, rfl⟩, ?_⟩), by (repeat first | exact trivial | refine ⟨⟨_, rfl, rfl⟩, ?_⟩), rfl⟩
       · refine rdho_eff rfl trivial (e_alloc ttOk rfl rfl rfl rfl) (rdh_2 4 8 (by kernel_rfl) ?_ ?_)
         · refine rdho_q rfl trivial (q_build ttOk rfl) rfl (rdh_1 8 (by kernel_rfl) (rdho_eff rfl trivial (e_alloc ttOk rfl rfl rfl rfl) (rdh_1 9 (by kernel_rfl) (rdho_eff rfl trivial (e_store ttOk rfl) (rdh_1 10 (by kernel_rfl) (rdho_eff rfl trivial (e_store ttOk rfl) ?_))))))
           exact rdh_le [] (by kernel_rfl) ⟨by (repeat first | exact trivial | refine ⟨rfl, ?_⟩), by (repeat first | exact trivial | refine ⟨rfl, ?_⟩), by (repeat first | exact trivial | refine ⟨⟨_, rfl, rfl⟩, ?_⟩), by (repeat first | exact trivial | refine ⟨⟨_, rfl, rfl⟩, ?_⟩), rfl⟩
         · refine rdho_eff rfl trivial (e_alloc ttOk rfl rfl rfl rfl) (rdh_1 4 (by kernel_rfl) (rdho_q rfl trivial (q_build ttOk rfl) rfl (rdh_1 9 (by kernel_rfl) (rdho_eff rfl trivial (e_store ttOk rfl) (rdh_1 10 (by kernel_rfl) (rdho_eff rfl trivial (e_store ttOk rfl) ?_))))))
           exact rdh_le [] (by kernel_rfl) ⟨by (repeat first | exact trivial | refine ⟨rfl, ?_⟩), by (repeat first | exact trivial | refine ⟨rfl, ?_⟩), by (repeat first | exact trivial | refine ⟨⟨_, rfl, rfl⟩, ?_⟩), by (repeat first | exact trivial | refine ⟨⟨_, rfl, rfl⟩, ?_⟩), rfl⟩
       · refine rdho_eff rfl trivial (e_alloc ttOk rfl rfl rfl rfl) (rdh_2 4 7 (by kernel_rfl) ?_ ?_)
         · refine rdho_q rfl trivial (q_build ttOk rfl) rfl (rdh_1 7 (by kernel_rfl) (rdho_eff rfl trivial (e_alloc ttOk rfl rfl rfl rfl) (rdh_1 9 (by kernel_rfl) (rdho_eff rfl trivial (e_store ttOk rfl) (rdh_1 10 (by kernel_rfl) (rdho_eff rfl trivial (e_store ttOk rfl) ?_))))))
           exact rdh_le [] (by kernel_rfl) ⟨by (repeat first | exact trivial | refine ⟨rfl, ?_⟩), by (repeat first | exact trivial | refine ⟨rfl, ?_⟩), by (repeat first | exact trivial | refine ⟨⟨_, rfl, rfl⟩, ?_⟩), by (repeat first | exact trivial | refine ⟨⟨_, rfl, rfl⟩, ?_⟩), rfl⟩
         · refine rdho_eff rfl trivial (e_alloc ttOk rfl rfl rfl rfl) (rdh_1 4 (by kernel_rfl) (rdho_q rfl trivial (q_build ttOk rfl) rfl (rdh_1 9 (by kernel_rfl) (rdho_eff rfl trivial (e_store ttOk rfl) (rdh_1 10 (by kernel_rfl) (rdho_eff rfl trivial (e_store ttOk rfl) ?_))))))
           exact rdh_le [] (by kernel_rfl) ⟨by (repeat first | exact trivial | refine ⟨rfl, ?_⟩), by (repeat first | exact trivial | refine ⟨rfl, ?_⟩), by (repeat first | exact trivial | refine ⟨⟨_, rfl, rfl⟩, ?_⟩), by (repeat first | exact trivial | refine ⟨⟨_, rfl, rfl⟩, ?_⟩), rfl⟩
     refine et (ev_adopt (b := 5) 2 101 100 9 rfl rfl rfl rfl rfl (ev_blk (ev_loop (fun i : Nat × Book × List Mark => (⟨[(2, pbV 2 0), (4, pbV 4 0), (5, pbV 5 0), (6, pbV 6 0)], [(6, 43, [seenA i.1 i.2.2]), (5, 48, [.c (iC i.2.1.base), .c (iC i.2.1.time), .rt 101]), (4, 48, [.c (iC 0), .c (iC 0), .c .nil]), (2, 42, [.c (rows t.a.kept), .c (writes t.a.wait), .c (rows t.b.kept), .c (writes t.b.wait)])], ((101, 100, 9, (i.2.1.entries.map entryC)) :: seenR i.1 i.2.2), []⟩ : St)) (fun i => (i.2.1, i.2.2) = bookUp t h i.1 ∧ i.2.1.entries.length = i.1) (fun i => 21 - i.1) (0, ⟨h.base, h.time, []⟩, h.seen) [] (⟨rfl, rfl⟩) ⟨by (repeat first | exact trivial | refine ⟨rfl, ?_⟩), by (repeat first | exact trivial | refine ⟨rfl, ?_⟩), ⟨⟨_, rfl, by rfl⟩, trivial⟩, by (repeat first | exact trivial | refine ⟨⟨_, rfl, rfl⟩, ?_⟩), rfl⟩ ?_)))
     intro i hp
     obtain ⟨k, bk, sn⟩ := i
     have hp : (bk, sn) = bookUp t h k ∧ bk.entries.length = k := hp
     obtain ⟨p0, p1⟩ := hp
     show Ev _ _ _ _ (⟨[(2, pbV 2 0), (4, pbV 4 0), (5, pbV 5 0), (6, pbV 6 0)], [(6, 43, [seenA k sn]), (5, 48, [.c (iC bk.base), .c (iC bk.time), .rt 101]), (4, 48, [.c (iC 0), .c (iC 0), .c .nil]), (2, 42, [.c (rows t.a.kept), .c (writes t.a.wait), .c (rows t.b.kept), .c (writes t.b.wait)])], ((101, 100, 9, (bk.entries.map entryC)) :: seenR k sn), []⟩ : St)
     have hup := up_ok (t := t) (h := h) (by assumption) k
     rw [← p0] at hup
     have hup : bookOk bk = true ∧ seenOk sn = true ∧ bk.entries.length ≤ k := hup
     have hbd := book_bd hup.1
     have hbl := book_last hup.1
     have hsl := seen_len hup.2.1
     refine ev_blk ?_
     rcases k with _ | k
     · refine sq ?_
       show Ev _ _ _ _ (⟨[(2, pbV 2 0), (4, pbV 4 0), (5, pbV 5 0), (6, pbV 6 0)], [(6, 43, [.c (marks sn)]), (5, 48, [.c (iC bk.base), .c (iC bk.time), .rt 101]), (4, 48, [.c (iC 0), .c (iC 0), .c .nil]), (2, 42, [.c (rows t.a.kept), .c (writes t.a.wait), .c (rows t.b.kept), .c (writes t.b.wait)])], [(101, 100, 9, (bk.entries.map entryC))], []⟩ : St)
       refine rg (xl ttOk rfl rfl (evl_call (nm := 27) (cf rfl) (c_lastOf bk hup.1) (rs_of rfl) rfl rfl rfl (xa rfl rfl rfl (by omega) rfl (evl_e (e_alloc ttOk rfl rfl rfl rfl) (xst ttOk rfl rfl (nl (et (sq ?_))))))))
       refine' ev_draw [9] mo ?hdr2 ?kdr2
       case hdr2 =>
         refine rdk_take 0 rfl (by kernel_rfl) trivial (q_load ttOk rfl) rfl (rdk_take 1 rfl (by kernel_rfl) trivial (q_load ttOk rfl) rfl (rdk_take 3 rfl (by kernel_rfl) trivial (q_mkf3 rfl rfl rfl) rfl (rdk_two 2 8 (by kernel_rfl) ?_ ?_)))
         · refine rdo_call (nm := 32) rfl trivial (cf rfl) (c_slotOf (lastB bk + 1) (by omega)) (rs_of rfl) rfl rfl rfl (rdk_two 4 8 (by kernel_rfl) ?_ ?_)
           · refine rdo_callF (nm := 34) rfl trivial (cf rfl) (c_firstIn t bk sn hup.2.1) (rs_of rfl) rfl (by kernel_rfl) rfl (fun r => c_BookIn1 bk sn (lastB bk + 1) hup.1 r) rfl rfl rfl (rdk_take 5 rfl (by kernel_rfl) trivial (q_move rfl) rfl (rdk_take 6 rfl (by kernel_rfl) trivial (q_ext rfl) rfl (rdk_pure 7 rfl (by kernel_rfl) trivial (qw_ext rfl) rfl (rdk_one 8 (by kernel_rfl) (rdo_new rfl trivial (e_alloc ttOk rfl rfl rfl rfl) (rdk_one 9 (by kernel_rfl) (rdo_brk rfl rfl trivial (e_store ttOk rfl) (rdb_q 10 rfl (by kernel_rfl) trivial (q_assign rfl) rfl ?_))))))))
             exact rdb_fin (by kernel_rfl)
           · refine rdo_new rfl trivial (e_alloc ttOk rfl rfl rfl rfl) (rdk_one 4 (by kernel_rfl) (rdo_callF (nm := 34) rfl trivial (cf rfl) (c_firstIn t bk sn hup.2.1) (rs_of rfl) rfl (by kernel_rfl) rfl (fun r => c_BookIn1 bk sn (lastB bk + 1) hup.1 r) rfl rfl rfl (rdk_take 5 rfl (by kernel_rfl) trivial (q_move rfl) rfl (rdk_take 6 rfl (by kernel_rfl) trivial (q_ext rfl) rfl (rdk_pure 7 rfl (by kernel_rfl) trivial (qw_ext rfl) rfl (rdk_one 9 (by kernel_rfl) (rdo_brk rfl rfl trivial (e_store ttOk rfl) (rdb_q 10 rfl (by kernel_rfl) trivial (q_assign rfl) rfl ?_))))))))
             exact rdb_le [] (by kernel_rfl) ⟨by (repeat first | exact trivial | refine ⟨rfl, ?_⟩), by (repeat first | exact trivial | refine ⟨rfl, ?_⟩), by (repeat first | exact trivial | refine ⟨⟨_, rfl, rfl⟩, ?_⟩), by (repeat first | exact trivial | refine ⟨⟨_, rfl, rfl⟩, ?_⟩), rfl⟩
         · refine rdo_new rfl trivial (e_alloc ttOk rfl rfl rfl rfl) (rdk_one 2 (by kernel_rfl) (rdo_call (nm := 32) rfl trivial (cf rfl) (c_slotOf (lastB bk + 1) (by omega)) (rs_of rfl) rfl rfl rfl (rdk_one 4 (by kernel_rfl) (rdo_callF (nm := 34) rfl trivial (cf rfl) (c_firstIn t bk sn hup.2.1) (rs_of rfl) rfl (by kernel_rfl) rfl (fun r => c_BookIn1 bk sn (lastB bk + 1) hup.1 r) rfl rfl rfl (rdk_take 5 rfl (by kernel_rfl) trivial (q_move rfl) rfl (rdk_take 6 rfl (by kernel_rfl) trivial (q_ext rfl) rfl (rdk_pure 7 rfl (by kernel_rfl) trivial (qw_ext rfl) rfl (rdk_one 9 (by kernel_rfl) (rdo_brk rfl rfl trivial (e_store ttOk rfl) (rdb_q 10 rfl (by kernel_rfl) trivial (q_assign rfl) rfl ?_))))))))))
           exact rdb_le [] (by kernel_rfl) ⟨by (repeat first | exact trivial | refine ⟨rfl, ?_⟩), by (repeat first | exact trivial | refine ⟨rfl, ?_⟩), by (repeat first | exact trivial | refine ⟨⟨_, rfl, rfl⟩, ?_⟩), by (repeat first | exact trivial | refine ⟨⟨_, rfl, rfl⟩, ?_⟩), rfl⟩
       refine et (sq (sq (rg (xm rfl rfl (xo (q_not rfl) rfl (nl (et (ev_cond_n rfl (fun h3 => ?_) (fun h3 => ?_)))))))))
       · refine sq (rg (xl ttOk rfl rfl (xst ttOk rfl rfl (nl (et (ev_ret (evr_then (evr_blk (evr_then (evr_blk (retH rfl (ret_pureN ttOk rfl rfl ?_))))))))))))
         first
         | (rw [bi_no1 (by assumption)]; simp [RpLe, L2, RcLe]; done)
         | (rw [bi_no2 (by assumption)]; simp [RpLe, L2, RcLe]; done)
         | (rw [bi_yes (by assumption) (by assumption) p0 (by omega) (none_of (by assumption))]; simp [RpLe, L2, RcLe]; done)
       · refine ev_skip (et (sq (rg (xf ttOk rfl rfl (xl ttOk rfl rfl (xl ttOk rfl rfl (evl_e (e_lit ttOk rfl rfl rfl) (evl_e (e_app ttOk rfl rfl rfl rfl rfl rfl rfl (by simp; omega) rfl rfl) (xf ttOk rfl rfl (xst ttOk rfl rfl (nl (et (rg (xl ttOk rfl rfl (xl ttOk rfl rfl (evl_call (nm := 49) (cf rfl) (c_Marked' sn ((nextE t bk sn).getD noEntry)) (rs_of rfl) rfl rfl rfl (xm rfl rfl (xo (q_ext rfl) rfl (xo (q_ext rfl) rfl (xst ttOk rfl rfl (nl (eb ?_))))))))))))))))))))))
         obtain ⟨hun1, hun2⟩ := up_next hup.1 hup.2.1 p0 (by assumption)
         refine eve_round (0 + 1, appF bk ((nextE t bk sn).getD noEntry), (markedF sn ((nextE t bk sn).getD noEntry)).1) [(101, 44), (102, 49)] ?hp ⟨by (repeat first | exact trivial | refine ⟨rfl, ?_⟩), by (repeat first | exact trivial | refine ⟨rfl, ?_⟩), ⟨⟨_, rfl, by simp [appF]⟩, ⟨_, rfl, by rfl⟩, trivial⟩, by (repeat first | exact trivial | refine ⟨⟨_, rfl, rfl⟩, ?_⟩), rfl⟩
         case hp => exact ⟨⟨hun2, by simp [appF, p1]⟩, by omega⟩
     · refine sq ?_
       show Ev _ _ _ _ (⟨[(2, pbV 2 0), (4, pbV 4 0), (5, pbV 5 0), (6, pbV 6 0)], [(6, 43, [.rt 102]), (5, 48, [.c (iC bk.base), .c (iC bk.time), .rt 101]), (4, 48, [.c (iC 0), .c (iC 0), .c .nil]), (2, 42, [.c (rows t.a.kept), .c (writes t.a.wait), .c (rows t.b.kept), .c (writes t.b.wait)])], [(101, 100, 9, (bk.entries.map entryC)), (102, 148, 3, (sn.map markC))], []⟩ : St)
       refine rg (xl ttOk rfl rfl (evl_call (nm := 27) (cf rfl) (c_lastOf bk hup.1) (rs_of rfl) rfl rfl rfl (xa rfl rfl rfl (by omega) rfl (evl_e (e_alloc ttOk rfl rfl rfl rfl) (xst ttOk rfl rfl (nl (et (sq ?_))))))))
       refine' ev_draw [9] mo ?hdr3 ?kdr3
       case hdr3 =>
         refine rdk_take 0 rfl (by kernel_rfl) trivial (q_load ttOk rfl) rfl (rdk_take 1 rfl (by kernel_rfl) trivial (q_load ttOk rfl) rfl (rdk_take 3 rfl (by kernel_rfl) trivial (q_mkf3 rfl rfl rfl) rfl (rdk_two 2 8 (by kernel_rfl) ?_ ?_)))
         · refine rdo_call (nm := 32) rfl trivial (cf rfl) (c_slotOf (lastB bk + 1) (by omega)) (rs_of rfl) rfl rfl rfl (rdk_two 4 8 (by kernel_rfl) ?_ ?_)
           · refine rdo_callF (nm := 34) rfl trivial (cf rfl) (c_firstIn t bk sn hup.2.1) (rs_of rfl) rfl (by kernel_rfl) rfl (fun r => c_BookIn1 bk sn (lastB bk + 1) hup.1 r) rfl rfl rfl (rdk_take 5 rfl (by kernel_rfl) trivial (q_move rfl) rfl (rdk_take 6 rfl (by kernel_rfl) trivial (q_ext rfl) rfl (rdk_pure 7 rfl (by kernel_rfl) trivial (qw_ext rfl) rfl (rdk_one 8 (by kernel_rfl) (rdo_new rfl trivial (e_alloc ttOk rfl rfl rfl rfl) (rdk_one 9 (by kernel_rfl) (rdo_brk rfl rfl trivial (e_store ttOk rfl) (rdb_q 10 rfl (by kernel_rfl) trivial (q_assign rfl) rfl ?_))))))))
             exact rdb_fin (by kernel_rfl)
           · refine rdo_new rfl trivial (e_alloc ttOk rfl rfl rfl rfl) (rdk_one 4 (by kernel_rfl) (rdo_callF (nm := 34) rfl trivial (cf rfl) (c_firstIn t bk sn hup.2.1) (rs_of rfl) rfl (by kernel_rfl) rfl (fun r => c_BookIn1 bk sn (lastB bk + 1) hup.1 r) rfl rfl rfl (rdk_take 5 rfl (by kernel_rfl) trivial (q_move rfl) rfl (rdk_take 6 rfl (by kernel_rfl) trivial (q_ext rfl) rfl (rdk_pure 7 rfl (by kernel_rfl) trivial (qw_ext rfl) rfl (rdk_one 9 (by kernel_rfl) (rdo_brk rfl rfl trivial (e_store ttOk rfl) (rdb_q 10 rfl (by kernel_rfl) trivial (q_assign rfl) rfl ?_))))))))
             exact rdb_le [] (by kernel_rfl) ⟨by (repeat first | exact trivial | refine ⟨rfl, ?_⟩), by (repeat first | exact trivial | refine ⟨rfl, ?_⟩), by (repeat first | exact trivial | refine ⟨⟨_, rfl, rfl⟩, ?_⟩), by (repeat first | exact trivial | refine ⟨⟨_, rfl, rfl⟩, ?_⟩), rfl⟩
         · refine rdo_new rfl trivial (e_alloc ttOk rfl rfl rfl rfl) (rdk_one 2 (by kernel_rfl) (rdo_call (nm := 32) rfl trivial (cf rfl) (c_slotOf (lastB bk + 1) (by omega)) (rs_of rfl) rfl rfl rfl (rdk_one 4 (by kernel_rfl) (rdo_callF (nm := 34) rfl trivial (cf rfl) (c_firstIn t bk sn hup.2.1) (rs_of rfl) rfl (by kernel_rfl) rfl (fun r => c_BookIn1 bk sn (lastB bk + 1) hup.1 r) rfl rfl rfl (rdk_take 5 rfl (by kernel_rfl) trivial (q_move rfl) rfl (rdk_take 6 rfl (by kernel_rfl) trivial (q_ext rfl) rfl (rdk_pure 7 rfl (by kernel_rfl) trivial (qw_ext rfl) rfl (rdk_one 9 (by kernel_rfl) (rdo_brk rfl rfl trivial (e_store ttOk rfl) (rdb_q 10 rfl (by kernel_rfl) trivial (q_assign rfl) rfl ?_))))))))))
           exact rdb_le [] (by kernel_rfl) ⟨by (repeat first | exact trivial | refine ⟨rfl, ?_⟩), by (repeat first | exact trivial | refine ⟨rfl, ?_⟩), by (repeat first | exact trivial | refine ⟨⟨_, rfl, rfl⟩, ?_⟩), by (repeat first | exact trivial | refine ⟨⟨_, rfl, rfl⟩, ?_⟩), rfl⟩
       refine et (sq (sq (rg (xm rfl rfl (xo (q_not rfl) rfl (nl (et (ev_cond_n rfl (fun h4 => ?_) (fun h4 => ?_)))))))))
       · refine sq (rg (xl ttOk rfl rfl (xst ttOk rfl rfl (nl (et (ev_ret (evr_then (evr_blk (evr_then (evr_blk (retH rfl (ret_pureN ttOk rfl rfl ?_))))))))))))
         first
         | (rw [bi_no1 (by assumption)]; simp [RpLe, L2, RcLe]; done)
         | (rw [bi_no2 (by assumption)]; simp [RpLe, L2, RcLe]; done)
         | (rw [bi_yes (by assumption) (by assumption) p0 (by omega) (none_of (by assumption))]; simp [RpLe, L2, RcLe]; done)
       · refine ev_skip (et (sq (rg (xf ttOk rfl rfl (xl ttOk rfl rfl (xl ttOk rfl rfl (evl_e (e_lit ttOk rfl rfl rfl) (evl_e (e_app ttOk rfl rfl rfl rfl rfl rfl rfl (by simp; omega) rfl rfl) (xf ttOk rfl rfl (xst ttOk rfl rfl (nl (et (rg (xl ttOk rfl rfl (xl ttOk rfl rfl (evl_call (nm := 49) (cf rfl) (c_Marked' sn ((nextE t bk sn).getD noEntry)) (rs_of rfl) rfl rfl rfl (xm rfl rfl (xo (q_ext rfl) rfl (xo (q_ext rfl) rfl (xst ttOk rfl rfl (nl (eb ?_))))))))))))))))))))))
         obtain ⟨hun1, hun2⟩ := up_next hup.1 hup.2.1 p0 (by assumption)
         refine eve_round (k + 1 + 1, appF bk ((nextE t bk sn).getD noEntry), (markedF sn ((nextE t bk sn).getD noEntry)).1) [(101, 44), (102, 49)] ?hp ⟨by (repeat first | exact trivial | refine ⟨rfl, ?_⟩), by (repeat first | exact trivial | refine ⟨rfl, ?_⟩), ⟨⟨_, rfl, by simp [appF]⟩, ⟨_, rfl, by rfl⟩, trivial⟩, by (repeat first | exact trivial | refine ⟨⟨_, rfl, rfl⟩, ?_⟩), rfl⟩
         case hp => exact ⟨⟨hun2, by simp [appF, p1]⟩, by omega⟩

end Go.Proofs.YtphaggopgdbojaaGreat
namespace Go.Proofs.YtphaggopgdbojaaGreat
open Go.ChangeShapes Go.WideShapes Go.ChangeAt Go.RowKit
set_option linter.unusedVariables false
set_option linter.unusedSimpArgs false
set_option maxHeartbeats 1000000
set_option maxRecDepth 100000
attribute [local irreducible] EvL Ev EvE Quiet Eff Pure RDk RDb RDo
def slotRowF (e : Entry) : List Int := if entryOk e then e.nums ++ [e.index, e.index] else []
theorem slotRow_yes {e : Entry} (h : entryOk e = true) : slotRowF e = e.nums ++ [e.index, e.index] := by simp [slotRowF, h]
theorem op_of {e : Entry} (h : entryOk e = true) : opOk e.kind e.a e.b e.c e.d = true := by
  simp only [entryOk, Bool.and_eq_true] at h
  exact h.2.2.2.2
theorem c_OpRow (e : Entry) (h : entryOk e = true) : Pure Tryz.prog 215 [many [iC e.kind, iC e.a, iC e.b, iC e.c, iC e.d]] [one' (intsR 2 [e.kind, e.a, e.b, e.c, e.d])] := by
 refine pure_intro (N := 18) Tryz.func215 rfl rfl rfl rfl (fun H w => ?_)
 have ho := op_of h
 refine sq (rg (evl_e (e_box rfl rfl rfl rfl) (xs rfl rfl (nl (et (sq (sq (rg (xl ttOk rfl rfl (evl_call (nm := 4) (cf rfl) (c_OpOk e.kind e.a e.b e.c e.d) (rs_of rfl) rfl rfl rfl (xo (q_not rfl) rfl (nl (et (ev_cond_n rfl (fun h1 => ?_) (fun h1 => ?_)))))))))))))))
 · refine sq (rg (evl_e (e_lit ttOk rfl rfl rfl) (xs rfl rfl (nl (et (ev_ret (evr_then (ret_pure' ttOk rfl rfl ?_))))))))
   first
   | rfl
   | (exfalso; simp_all; done)
 · refine ev_skip (et (sq (rg (xf ttOk rfl rfl (xl ttOk rfl rfl (xf ttOk rfl rfl (xl ttOk rfl rfl (xf ttOk rfl rfl (xl ttOk rfl rfl (xf ttOk rfl rfl (xl ttOk rfl rfl (xf ttOk rfl rfl (xl ttOk rfl rfl (evl_e (e_lit ttOk rfl rfl rfl) (xs rfl rfl (nl (et (ev_ret (ret_pure' ttOk rfl rfl ?_)))))))))))))))))))
   first
   | rfl
   | (exfalso; simp_all; done)
theorem c_EntryRow (e : Entry) (h : entryOk e = true) : Pure Tryz.prog 166 [many (entryC e)] [one' (intsR 2 e.nums)] := by
 refine pure_intro (N := 20) Tryz.func166 rfl rfl rfl rfl (fun H w => ?_)
 refine sq (rg (evl_e (e_box rfl rfl rfl rfl) (xs rfl rfl (nl (et (sq (sq (rg (xl ttOk rfl rfl (evl_call (nm := 4) (cf rfl) (c_EntryOk e) (rs_of rfl) rfl rfl rfl (xo (q_not rfl) rfl (nl (et (ev_cond_n rfl (fun h1 => ?_) (fun h1 => ?_)))))))))))))))
 · refine sq (rg (evl_e (e_lit ttOk rfl rfl rfl) (xs rfl rfl (nl (et (ev_ret (evr_then (ret_pure' ttOk rfl rfl ?_))))))))
   first
   | rfl
   | (exfalso; simp_all; done)
 · refine ev_skip (et (sq (ev_drawq [12] mo (rdk_take 0 rfl (by kernel_rfl) trivial (q_fieldAddr ttOk rfl) rfl (rdk_take 1 rfl (by kernel_rfl) trivial (q_load ttOk rfl) rfl (rdk_take 2 rfl (by kernel_rfl) trivial (q_fieldAddr ttOk rfl) rfl (rdk_take 3 rfl (by kernel_rfl) trivial (q_load ttOk rfl) rfl (rdk_take 4 rfl (by kernel_rfl) trivial (q_fieldAddr ttOk rfl) rfl (rdk_take 5 rfl (by kernel_rfl) trivial (q_load ttOk rfl) rfl (rdk_take 6 rfl (by kernel_rfl) trivial (q_fieldAddr ttOk rfl) rfl (rdk_take 7 rfl (by kernel_rfl) trivial (q_load ttOk rfl) rfl (rdk_take 9 rfl (by kernel_rfl) trivial (q_fieldAddr ttOk rfl) rfl (rdk_take 10 rfl (by kernel_rfl) trivial (q_load ttOk rfl) rfl (rdk_two 8 11 (by kernel_rfl) ?_ ?_))))))))))))))
   · refine rdo_new rfl trivial (e_lit ttOk rfl rfl rfl) (rdk_one 11 (by kernel_rfl) (rdo_call (nm := 18) rfl trivial (cf rfl) (c_OpRow e h) (rs_of rfl) rfl rfl rfl (rdk_one 12 (by kernel_rfl) (rdo_brk rfl rfl trivial (e_app ttOk rfl rfl rfl rfl rfl rfl rfl (by simp) rfl rfl) (rdb_q 13 rfl (by kernel_rfl) trivial (q_assign rfl) rfl (rdb_endq (by kernel_rfl) (et (ev_ret (ret_pure' ttOk rfl rfl ?_)))))))))
     first
     | rfl
     | (exfalso; simp_all; done)
   · refine rdo_call (nm := 18) rfl trivial (cf rfl) (c_OpRow e h) (rs_of rfl) rfl rfl rfl (rdk_one 8 (by kernel_rfl) (rdo_new rfl trivial (e_lit ttOk rfl rfl rfl) (rdk_one 12 (by kernel_rfl) (rdo_brk rfl rfl trivial (e_app ttOk rfl rfl rfl rfl rfl rfl rfl (by simp) rfl rfl) (rdb_q 13 rfl (by kernel_rfl) trivial (q_assign rfl) rfl (rdb_endq (by kernel_rfl) (et (ev_ret (ret_pure' ttOk rfl rfl ?_)))))))))
     first
     | rfl
     | (exfalso; simp_all; done)
theorem c_SlotRow (e : Entry) (h : entryOk e = true) : Pure Tryz.prog 94 [many (entryC e)] [one' (intsR 2 (slotRowF e))] := by
 refine pure_intro (N := 15) Tryz.func94 rfl rfl rfl rfl (fun H w => ?_)
 refine sq (rg (evl_e (e_box rfl rfl rfl rfl) (xs rfl rfl (nl (et (sq (sq (rg (xl ttOk rfl rfl (evl_call (nm := 4) (cf rfl) (c_EntryOk e) (rs_of rfl) rfl rfl rfl (xo (q_not rfl) rfl (nl (et (ev_cond_n rfl (fun h1 => ?_) (fun h1 => ?_)))))))))))))))
 · refine sq (rg (evl_e (e_lit ttOk rfl rfl rfl) (xs rfl rfl (nl (et (ev_ret (evr_then (ret_pure' ttOk rfl rfl ?_))))))))
   first
   | (rw [slotRow_yes h] <;> rfl)
   | (exfalso; simp_all; done)
 · refine ev_skip (et (sq (ev_drawq [7] mo (rdk_take 0 rfl (by kernel_rfl) trivial (q_load ttOk rfl) rfl (rdk_take 2 rfl (by kernel_rfl) trivial (q_fieldAddr ttOk rfl) rfl (rdk_take 3 rfl (by kernel_rfl) trivial (q_load ttOk rfl) rfl (rdk_take 4 rfl (by kernel_rfl) trivial (q_fieldAddr ttOk rfl) rfl (rdk_take 5 rfl (by kernel_rfl) trivial (q_load ttOk rfl) rfl (rdk_two 1 6 (by kernel_rfl) ?_ ?_)))))))))
   · refine rdo_call (nm := 8) rfl trivial (cf rfl) (c_EntryRow e h) (rs_of rfl) rfl rfl rfl (rdk_one 6 (by kernel_rfl) (rdo_new rfl trivial (e_lit ttOk rfl rfl rfl) (rdk_one 7 (by kernel_rfl) (rdo_brk rfl rfl trivial (e_app ttOk rfl rfl rfl rfl rfl rfl rfl (by simp [Entry.nums]) rfl rfl) (rdb_q 8 rfl (by kernel_rfl) trivial (q_assign rfl) rfl (rdb_endq (by kernel_rfl) (et (ev_ret (ret_pure' ttOk rfl rfl ?_)))))))))
     first
     | (rw [slotRow_yes h] <;> rfl)
     | (exfalso; simp_all; done)
   · refine rdo_new rfl trivial (e_lit ttOk rfl rfl rfl) (rdk_one 1 (by kernel_rfl) (rdo_call (nm := 8) rfl trivial (cf rfl) (c_EntryRow e h) (rs_of rfl) rfl rfl rfl (rdk_one 7 (by kernel_rfl) (rdo_brk rfl rfl trivial (e_app ttOk rfl rfl rfl rfl rfl rfl rfl (by simp [Entry.nums]) rfl rfl) (rdb_q 8 rfl (by kernel_rfl) trivial (q_assign rfl) rfl (rdb_endq (by kernel_rfl) (et (ev_ret (ret_pure' ttOk rfl rfl ?_)))))))))
     first
     | (rw [slotRow_yes h] <;> rfl)
     | (exfalso; simp_all; done)
theorem c_numbersOp (e : Entry) : Pure Tryz.prog 216 [many [iC e.kind, iC e.a, iC e.b, iC e.c, iC e.d]] [one' (intsR 2 [e.kind, e.a, e.b, e.c, e.d])] := by
 refine pure_intro (N := 14) Tryz.func216 rfl rfl rfl rfl (fun H w => ?_)
 refine sq (rg (evl_e (e_box rfl rfl rfl rfl) (xs rfl rfl (nl (et (sq (rg (xf ttOk rfl rfl (xl ttOk rfl rfl (xf ttOk rfl rfl (xl ttOk rfl rfl (xf ttOk rfl rfl (xl ttOk rfl rfl (xf ttOk rfl rfl (xl ttOk rfl rfl (xf ttOk rfl rfl (xl ttOk rfl rfl (evl_e (e_lit ttOk rfl rfl rfl) (xs rfl rfl (nl (et (ev_ret (ret_pure' ttOk rfl rfl ?_)))))))))))))))))))))))
 rfl
theorem c_numbers (e : Entry) : Pure Tryz.prog 171 [many (entryC e)] [one' (intsR 2 e.nums)] := by
 refine pure_intro (N := 22) Tryz.func171 rfl rfl rfl rfl (fun H w => ?_)
 refine sq (rg (evl_e (e_box rfl rfl rfl rfl) (xs rfl rfl (nl (et (sq (rg (xf ttOk rfl rfl (xl ttOk rfl rfl (xf ttOk rfl rfl (xl ttOk rfl rfl (xf ttOk rfl rfl (xl ttOk rfl rfl (xf ttOk rfl rfl (xl ttOk rfl rfl (xf ttOk rfl rfl (xl ttOk rfl rfl (evl_e (e_lit ttOk rfl rfl rfl) (xo (q_build ttOk rfl) rfl (evl_e (e_alloc ttOk rfl rfl rfl rfl) (xst ttOk rfl rfl (nl (et (sq (ev_drawq [5] mo (rdk_take 0 rfl (by kernel_rfl) trivial (q_fieldAddr ttOk rfl) rfl (rdk_take 1 rfl (by kernel_rfl) trivial (q_load ttOk rfl) rfl (rdk_take 2 rfl (by kernel_rfl) trivial (q_fieldAddr ttOk rfl) rfl (rdk_take 3 rfl (by kernel_rfl) trivial (q_load ttOk rfl) rfl (rdk_one 4 (by kernel_rfl) (rdo_call (nm := 20) rfl trivial (cf rfl) (c_numbersOp e) (rs_of rfl) rfl rfl rfl (rdk_one 5 (by kernel_rfl) (rdo_brk rfl rfl trivial (e_app ttOk rfl rfl rfl rfl rfl rfl rfl (by simp) rfl rfl) (rdb_q 6 rfl (by kernel_rfl) trivial (q_assign rfl) rfl (rdb_endq (by kernel_rfl) (et (ev_ret (ret_pure' ttOk rfl rfl ?_))))))))))))))))))))))))))))))))))))))
 rfl
theorem c_SlotRow' (e : Entry) (h : entryOk e = true) : Pure Tryz.prog 100 [many (entryC e)] [one' (intsR 2 (slotRowF e))] := by
 refine pure_intro (N := 14) Tryz.func100 rfl rfl rfl rfl (fun H w => ?_)
 refine sq (rg (evl_e (e_box rfl rfl rfl rfl) (xs rfl rfl (nl (et (sq (sq (rg (xl ttOk rfl rfl (evl_call (nm := 4) (cf rfl) (c_EntryOk' e) (rs_of rfl) rfl rfl rfl (xo (q_not rfl) rfl (nl (et (ev_cond_n rfl (fun h1 => ?_) (fun h1 => ?_)))))))))))))))
 · refine sq (rg (xs rfl rfl (nl (et (ev_ret (evr_then (ret_pure' ttOk rfl rfl ?_)))))))
   first
   | (rw [slotRow_yes h] <;> rfl)
   | (exfalso; simp_all; done)
 · refine ev_skip (et (sq (ev_drawq [7] mo (rdk_take 0 rfl (by kernel_rfl) trivial (q_load ttOk rfl) rfl (rdk_take 2 rfl (by kernel_rfl) trivial (q_fieldAddr ttOk rfl) rfl (rdk_take 3 rfl (by kernel_rfl) trivial (q_load ttOk rfl) rfl (rdk_take 4 rfl (by kernel_rfl) trivial (q_fieldAddr ttOk rfl) rfl (rdk_take 5 rfl (by kernel_rfl) trivial (q_load ttOk rfl) rfl (rdk_two 1 6 (by kernel_rfl) ?_ ?_)))))))))
   · refine rdo_call (nm := 7) rfl trivial (cf rfl) (c_numbers e) (rs_of rfl) rfl rfl rfl (rdk_one 6 (by kernel_rfl) (rdo_new rfl trivial (e_lit ttOk rfl rfl rfl) (rdk_one 7 (by kernel_rfl) (rdo_brk rfl rfl trivial (e_app ttOk rfl rfl rfl rfl rfl rfl rfl (by simp [Entry.nums]) rfl rfl) (rdb_q 8 rfl (by kernel_rfl) trivial (q_assign rfl) rfl (rdb_endq (by kernel_rfl) (et (ev_ret (ret_pure' ttOk rfl rfl ?_)))))))))
     first
     | (rw [slotRow_yes h] <;> rfl)
     | (exfalso; simp_all; done)
   · refine rdo_new rfl trivial (e_lit ttOk rfl rfl rfl) (rdk_one 1 (by kernel_rfl) (rdo_call (nm := 7) rfl trivial (cf rfl) (c_numbers e) (rs_of rfl) rfl rfl rfl (rdk_one 7 (by kernel_rfl) (rdo_brk rfl rfl trivial (e_app ttOk rfl rfl rfl rfl rfl rfl rfl (by simp [Entry.nums]) rfl rfl) (rdb_q 8 rfl (by kernel_rfl) trivial (q_assign rfl) rfl (rdb_endq (by kernel_rfl) (et (ev_ret (ret_pure' ttOk rfl rfl ?_)))))))))
     first
     | (rw [slotRow_yes h] <;> rfl)
     | (exfalso; simp_all; done)

end Go.Proofs.YtphaggopgdbojaaGreat
