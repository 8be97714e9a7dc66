/- Walks of functions of the program, printed by a program of the prover. -/
import Derived.Test.YtinmcdcmidlgpaaGreatDoorAkF22
namespace Go.Proofs.YtinmcdcmidlgpaaGreatDoor
open Go.ChangeShapes Go.WideShapes Go.ChangeAt Go.RowKit
set_option linter.unusedVariables false
set_option linter.unusedSimpArgs false
set_option maxHeartbeats 1000000
set_option maxRecDepth 100000
attribute [local irreducible] EvL Ev EvE Quiet Eff Pure RDk RDb RDo
theorem c_BothWrote' (t : Two) (x : Int) (row : List Int) : Pure Tryz.prog 220 [many (twoC t), one (iC x), one (ints row)] [many' (twoR ((bothWroteF t x row).1)), one' (RC.v (.bool ((bothWroteF t x row).2)))] := by
 refine pure_intro (N := 48) Tryz.func220 rfl rfl rfl rfl (fun H w => ?_)
 refine sq (rg (evl_e (e_box rfl rfl rfl rfl) (evl_e (e_alloc ttOk rfl rfl rfl rfl) (xs rfl rfl (nl (et (sq (sq (rg (xl ttOk rfl rfl (evl_call (nm := 15) (cf rfl) (c_TwoOk' t) (rs_of rfl) rfl rfl rfl (xo (q_not rfl) rfl (nl (et (ev_cond_n rfl (fun h1 => ?_) (fun h1 => ?_))))))))))))))))
 ·refine sq (rg (xo (q_build ttOk rfl) rfl (xst ttOk rfl rfl (xs rfl rfl (nl (et (ev_ret (evr_then (ret_pureN ttOk rfl rfl ?_)))))))))
  first
  | (rw [both_no ‹_›]; simp [RpLe, L2, RcLe, zeroD, zeroT]; done)
  | (rw [both_yes ‹_› ‹_› ‹_› ‹_›]; simp [RpLe, L2, RcLe]; done)
  | (rw [both_fail ‹_› (by simp_all; done)]; simp [RpLe, L2, RcLe]; done)
  | (exfalso; simp_all; done)
 ·obtain ⟨hka, hkb⟩ := twoOk_both h1
  refine ev_skip (et ?_)
  cases hcs : canSum row
  ·refine sq (rg (xm rfl rfl (evl_call (nm := 19) (cf rfl) (c_WithSum_nil row ‹_›) (rs_of rfl) rfl rfl rfl (xs rfl rfl (nl (et (sq (sq (rg (xm rfl rfl ?_))))))))))
   first | refine xb ttOk rfl rfl ?_ | refine xo (q_nilv ttOk rfl rfl ⟨_, _, _, rfl, rfl⟩ (by rw [withSum_yes ‹_›]; simp) rfl rfl) rfl ?_
   refine nl (et (ev_cond_kt rfl (by first | rfl | assumption | exact nt ‹_› | exact nf ‹_›) (sq (rg (xl ttOk rfl rfl (evl_call (nm := 23) (cf rfl) (c_copyTwo t ‹_›) (rs_of rfl) rfl rfl rfl (xst ttOk rfl rfl (xs rfl rfl (nl (et (ev_ret (evr_then (ret_pureN ttOk rfl rfl ?_)))))))))))))
   first
   | (rw [both_no ‹_›]; simp [RpLe, L2, RcLe, zeroD, zeroT]; done)
   | (rw [both_yes ‹_› ‹_› ‹_› ‹_›]; simp [RpLe, L2, RcLe]; done)
   | (rw [both_fail ‹_› (by simp_all; done)]; simp [RpLe, L2, RcLe]; done)
   | (exfalso; simp_all; done)
  ·refine sq (rg (xm rfl rfl (evl_call (nm := 19) (cf rfl) (c_WithSum' row) (rs_of rfl) rfl rfl rfl (xs rfl rfl (nl (et (sq (sq (rg (xm rfl rfl ?_))))))))))
   first | refine xb ttOk rfl rfl ?_ | refine xo (q_nilv ttOk rfl rfl ⟨_, _, _, rfl, rfl⟩ (by rw [withSum_yes ‹_›]; simp) rfl rfl) rfl ?_
   refine nl (et (ev_cond_kf rfl (by first | rfl | assumption | exact nt ‹_› | exact nf ‹_›) (ev_skip (et (sq (rg (xl ttOk rfl rfl (evl_callv (cf rfl) hands_disks rfl rfl rfl rfl (evl_e (e_alloc ttOk rfl rfl rfl rfl) (xst ttOk rfl rfl (nl (et (sq (sq (rg (xl ttOk rfl rfl (xm rfl rfl (nl (et (ev_blk (ev_rounds 2 (sq (rg (xb ttOk rfl rfl (nl (et (sq (ev_cond_kt rfl (by first | rfl | assumption | exact nt ‹_› | exact nf ‹_›) (ev_skip (et (sq (ev_blk (sq (rg (xm rfl rfl ?_)))))))))))))))))))))))))))))))))))
   first | refine xo (q_index 0 ttOk rfl rfl om) rfl ?_ | refine xo (q_index 1 ttOk rfl rfl om) rfl ?_
   refine evl_e (e_alloc ttOk rfl rfl rfl rfl) (xs rfl rfl (xst ttOk rfl rfl (nl (et (sq (rg (xl ttOk rfl rfl (xm rfl rfl (xm rfl rfl ?_)))))))))
   first | refine evl_call (nm := 35) (cf rfl) (c_Wrote' t.a x (withSumF row)) (rs_of rfl) rfl rfl rfl ?_ | refine evl_call (nm := 35) (cf rfl) (c_Wrote' t.b x (withSumF row)) (rs_of rfl) rfl rfl rfl ?_
   refine xm rfl rfl (xo (q_ext rfl) rfl (xo (q_ext rfl) rfl (evl_e (e_alloc ttOk rfl rfl rfl rfl) (xst ttOk rfl rfl (xs rfl rfl (nl (et (sq (sq (rg (xm rfl rfl (xo (q_not rfl) rfl (nl (et (ev_cond_n rfl (fun h2 => ?_) (fun h2 => ?_))))))))))))))))
   ·refine sq (rg (xl ttOk rfl rfl (evl_call (nm := 41) (cf rfl) (c_copyTwo t ‹_›) (rs_of rfl) rfl rfl rfl (xst ttOk rfl rfl (xs rfl rfl (nl (et (ev_ret (evr_then (evr_blk (evr_then (evr_then (evr_blk (evr_then (ret_pureN ttOk rfl rfl ?_)))))))))))))))
    first
    | (rw [both_no ‹_›]; simp [RpLe, L2, RcLe, zeroD, zeroT]; done)
    | (rw [both_yes ‹_› ‹_› ‹_› ‹_›]; simp [RpLe, L2, RcLe]; done)
    | (rw [both_fail ‹_› (by simp_all; done)]; simp [RpLe, L2, RcLe]; done)
    | (exfalso; simp_all; done)
   ·refine ev_skip (et (rg (xm rfl rfl (xl ttOk rfl rfl ?_))))
    first | refine xo (q_ix_arr 0 ttOk rfl rfl om) rfl ?_ | refine xo (q_ix_arr 1 ttOk rfl rfl om) rfl ?_
    refine xst ttOk rfl rfl (nl (eb (et (rg (xa rfl rfl rfl om rfl (xm rfl rfl (nl (eve_again (ev_pr [1, 3, 6, 7, 8, 9, 26, 27] rfl (ev_remB [11, 12] rfl (sq (rg (xb ttOk rfl rfl (nl (et (sq (ev_cond_kt rfl (by first | rfl | assumption | exact nt ‹_› | exact nf ‹_›) (ev_skip (et (sq (ev_blk (sq (rg (xm rfl rfl ?_))))))))))))))))))))))))
    first | refine xo (q_index 0 ttOk rfl rfl om) rfl ?_ | refine xo (q_index 1 ttOk rfl rfl om) rfl ?_
    refine evl_e (e_alloc ttOk rfl rfl rfl rfl) (xs rfl rfl (xst ttOk rfl rfl (nl (et (sq (rg (xl ttOk rfl rfl (xm rfl rfl (xm rfl rfl ?_)))))))))
    first | refine evl_call (nm := 1000035) (cf rfl) (c_Wrote' t.a x (withSumF row)) (rs_of rfl) rfl rfl rfl ?_ | refine evl_call (nm := 1000035) (cf rfl) (c_Wrote' t.b x (withSumF row)) (rs_of rfl) rfl rfl rfl ?_
    refine xm rfl rfl (xo (q_ext rfl) rfl (xo (q_ext rfl) rfl (evl_e (e_alloc ttOk rfl rfl rfl rfl) (xst ttOk rfl rfl (xs rfl rfl (nl (et (sq (sq (rg (xm rfl rfl (xo (q_not rfl) rfl (nl (et (ev_cond_n rfl (fun h3 => ?_) (fun h3 => ?_))))))))))))))))
    ·refine sq (rg (xl ttOk rfl rfl (evl_call (nm := 1000041) (cf rfl) (c_copyTwo t ‹_›) (rs_of rfl) rfl rfl rfl (xst ttOk rfl rfl (xs rfl rfl (nl (et (ev_ret (evr_then (evr_blk (evr_then (evr_then (evr_blk (evr_then (ret_pureN ttOk rfl rfl ?_)))))))))))))))
     first
     | (rw [both_no ‹_›]; simp [RpLe, L2, RcLe, zeroD, zeroT]; done)
     | (rw [both_yes ‹_› ‹_› ‹_› ‹_›]; simp [RpLe, L2, RcLe]; done)
     | (rw [both_fail ‹_› (by simp_all; done)]; simp [RpLe, L2, RcLe]; done)
     | (exfalso; simp_all; done)
    ·refine ev_skip (et (rg (xm rfl rfl (xl ttOk rfl rfl ?_))))
     first | refine xo (q_ix_arr 0 ttOk rfl rfl om) rfl ?_ | refine xo (q_ix_arr 1 ttOk rfl rfl om) rfl ?_
     refine xst ttOk rfl rfl (nl (eb (et (rg (xa rfl rfl rfl om rfl (xm rfl rfl (nl (eve_again (ev_pr [1, 3, 6, 7, 8, 9, 26, 27] rfl (ev_remB [11, 12] rfl (sq (rg (xb ttOk rfl rfl (nl (et (sq (ev_cond_kf rfl (by first | rfl | assumption | exact nt ‹_› | exact nf ‹_›) (ev_exit (evx_then (evx_then (evx_hit (et (sq (rg (xl ttOk rfl rfl (evl_callv (cf rfl) hands_twoOf rfl rfl rfl rfl (xst ttOk rfl rfl (xs rfl rfl (nl (et (ev_ret (ret_pureN ttOk rfl rfl ?_))))))))))))))))))))))))))))))))
     first
     | (rw [both_no ‹_›]; simp [RpLe, L2, RcLe, zeroD, zeroT]; done)
     | (rw [both_yes ‹_› ‹_› ‹_› ‹_›]; simp [RpLe, L2, RcLe]; done)
     | (rw [both_fail ‹_› (by simp_all; done)]; simp [RpLe, L2, RcLe]; done)
     | (exfalso; simp_all; done)
@[reducible] def wF (x : Int × List Int) : List C := [iC x.1, ints x.2]
@[reducible] def wH (x : Int × List Int) : List C := [iC x.1, .hole]
def noMark : Mark := ⟨0, 0, 0⟩
def findM (l : List Mark) (c : Int) : Mark := (l.find? fun m => decide (m.client = c)).getD noMark
theorem find_hit {l : List Mark} {c : Int} {k : Nat} (hk : k < l.length) (h : ∀ m ∈ l.take k, m.client ≠ c) (hc : l[k].client = c) : findM l c = l[k] := by
 have e : l.find? (fun m => decide (m.client = c)) = some l[k] := by
  conv => lhs; rw [← List.take_append_drop k l, List.drop_eq_getElem_cons hk]
  rw [List.find?_append, List.find?_eq_none.2 (by simpa using h), List.find?_cons_of_pos (by simpa using hc)]
  rfl
 simp [findM, e]
theorem find_no {l : List Mark} {c : Int} {k : Nat} (hk : ¬ k < l.length) (h : ∀ m ∈ l.take k, m.client ≠ c) : findM l c = noMark := by
 rw [List.take_of_length_le om] at h
 have e : l.find? (fun m => decide (m.client = c)) = none := List.find?_eq_none.2 (by simpa using h)
 simp [findM, e]
theorem c_markOf (l : List Mark) (c : Int) : Pure Tryz.prog 65 [one (marks l), one (iC c)] [many' [.v (.int .i64 (findM l c).client), .v (.int .i64 (findM l c).seq), .v (.int .i64 (findM l c).index)]] := by
 refine pure_intro (N := 20) Tryz.func65 rfl rfl rfl rfl (fun H w => ?_)
 refine ev_lenm (t := 0) rfl (fun hL => ?_)
 refine sq (rg (evl_e (e_alloc ttOk rfl rfl rfl rfl) (nl (et (sq (sq (rg (xm rfl rfl (xo (q_len_map ttOk rfl rfl) rfl (xm rfl rfl (nl (et (ev_blk (ev_loop (fun k : Nat => (⟨[(9, iV k), (8, iV l.length), (7, cV (marks l)), (1, iV c), (4, pbV 4 0)], [(4, 94, [.c (iC 0), .c (iC 0), .c (iC 0)])], [], []⟩ : St)) (fun k => k ≤ l.length ∧ ∀ m ∈ l.take k, m.client ≠ c) (fun k => l.length - k) 0 [] (⟨by simp, by simp⟩) lei ?_))))))))))))))
 intro k hp
 obtain ⟨p0, p1⟩ := hp
 show Ev _ _ _ _ (⟨[(9, iV k), (8, iV l.length), (7, cV (marks l)), (1, iV c), (4, pbV 4 0)], [(4, 94, [.c (iC 0), .c (iC 0), .c (iC 0)])], [], []⟩ : St)
 refine sq (rg (xb ttOk rfl rfl (nl (et (sq (ev_cond rfl (fun h1 => ?_) (fun h1 => ?_)))))))
 ·have d1 := of_decide_eq_true h1
  refine ev_skip (et (sq (ev_blk (sq (rg (xo (q_ix_map ttOk rfl rfl rfl rfl om) rfl (xl ttOk rfl rfl (evl_e (e_alloc ttOk rfl rfl rfl rfl) (xst ttOk rfl rfl (nl (et (sq (rg (xf ttOk rfl rfl (xl ttOk rfl rfl (xm rfl rfl (xb ttOk rfl rfl (nl (et (ev_cond rfl (fun h2 => ?_) (fun h2 => ?_)))))))))))))))))))))
  ·have d2 := of_decide_eq_true h2
   refine sq (rg (xl ttOk rfl rfl (xst ttOk rfl rfl (nl (et (ev_ret (evr_blk (evr_then (evr_then (evr_blk (evr_then (ret_pure' ttOk rfl rfl ?_))))))))))))
   first
   | (rw [find_hit (k := k) om p1 ‹_›]; done)
   | (rw [find_no (k := k) om p1]; rfl)
  ·have d2 := of_decide_eq_false h2
   refine ev_skip (eb (et (rg (xa rfl rfl rfl om rfl (xm rfl rfl (nl (eve_round (k + 1) [] ?hp lei)))))))
   case hp => exact ⟨⟨by omega, all_takeP om p1 ‹_›⟩, by omega⟩
 ·have d1 := of_decide_eq_false h1
  refine ev_exit (evx_then (evx_then (evx_hit (et (sq (rg (xo (q_build ttOk rfl) rfl (xst ttOk rfl rfl (nl (et (ev_ret (ret_pure' ttOk rfl rfl ?_))))))))))))
  first
  | (rw [find_hit (k := k) om p1 ‹_›]; done)
  | (rw [find_no (k := k) om p1]; rfl)
theorem c_MarkOf (l : List Mark) (c : Int) : Pure Tryz.prog 41 [one (marks l), one (iC c)] [many' [.v (.int .i64 (if seenOk l then findM l c else noMark).client), .v (.int .i64 (if seenOk l then findM l c else noMark).seq), .v (.int .i64 (if seenOk l then findM l c else noMark).index)]] := by
 refine pure_intro (N := 28) Tryz.func41 rfl rfl rfl rfl (fun H w => ?_)
 refine ev_lenm (t := 0) rfl (fun hL => ?_)
 refine sq (rg (evl_e (e_alloc ttOk rfl rfl rfl rfl) (nl (et (sq (sq (rg (xm rfl rfl (evl_call (nm := 7) (cf rfl) (c_SeenOk l) (rs_of rfl) rfl rfl rfl (xo (q_not rfl) rfl (nl (et (ev_cond_n rfl (fun h1 => ?_) (fun h1 => ?_))))))))))))))
 ·try have d1 := of_decide_eq_false h1
  refine sq (rg (xo (q_build ttOk rfl) rfl (xst ttOk rfl rfl (nl (et (ev_ret (evr_then (ret_pure' ttOk rfl rfl ?_))))))))
  first
  | (rw [show seenOk l = false by assumption]; rfl)
  | (rw [show seenOk l = true by assumption, if_pos rfl, find_hit (k := k) om p1 ‹_›]; done)
  | (rw [show seenOk l = true by assumption, if_pos rfl, find_no (k := k) om p1]; rfl)
 ·try have d1 := of_decide_eq_true h1
  refine ev_skip (et (sq (sq (rg (xs rfl rfl (nl (et (ev_blk (ev_loop (fun k : Nat => (⟨[(5, iV k), (0, cV (marks l)), (1, iV c), (4, pbV 4 0)], [(4, 94, [.c (iC 0), .c (iC 0), .c (iC 0)])], [], []⟩ : St)) (fun k => k ≤ l.length ∧ ∀ m ∈ l.take k, m.client ≠ c) (fun k => l.length - k) 0 [] (⟨by simp, by simp⟩) lei ?_)))))))))
  intro k hp
  obtain ⟨p0, p1⟩ := hp
  show Ev _ _ _ _ (⟨[(5, iV k), (0, cV (marks l)), (1, iV c), (4, pbV 4 0)], [(4, 94, [.c (iC 0), .c (iC 0), .c (iC 0)])], [], []⟩ : St)
  refine sq (sq (rg (xm rfl rfl (xm rfl rfl (xo (q_len_map ttOk rfl rfl) rfl (xb ttOk rfl rfl (nl (et (ev_cond rfl (fun h2 => ?_) (fun h2 => ?_))))))))))
  ·try have d2 := of_decide_eq_true h2
   refine ev_skip (et (sq (ev_blk (sq (rg (xm rfl rfl (xm rfl rfl (xo (q_ix_map ttOk rfl rfl rfl rfl om) rfl (xf ttOk rfl rfl (xl ttOk rfl rfl (xm rfl rfl (xb ttOk rfl rfl (nl (et (ev_cond rfl (fun h3 => ?_) (fun h3 => ?_))))))))))))))))
   ·try have d3 := of_decide_eq_true h3
    refine sq (rg (xm rfl rfl (xm rfl rfl (xo (q_ix_map ttOk rfl rfl rfl rfl om) rfl (xl ttOk rfl rfl (xst ttOk rfl rfl (nl (et (ev_ret (evr_blk (evr_then (evr_then (evr_blk (evr_then (ret_pure' ttOk rfl rfl ?_)))))))))))))))
    first
    | (rw [show seenOk l = false by assumption]; rfl)
    | (rw [show seenOk l = true by assumption, if_pos rfl, find_hit (k := k) om p1 ‹_›]; done)
    | (rw [show seenOk l = true by assumption, if_pos rfl, find_no (k := k) om p1]; rfl)
   ·try have d3 := of_decide_eq_false h3
    refine ev_skip (eb (et (rg (xm rfl rfl (xa rfl rfl rfl om rfl (xs rfl rfl (nl (eve_round (k + 1) [] ?hp lei))))))))
    case hp => exact ⟨⟨by omega, all_takeP om p1 ‹_›⟩, by omega⟩
  ·try have d2 := of_decide_eq_false h2
   refine ev_exit (evx_then (evx_then (evx_hit (et (sq (rg (xo (q_build ttOk rfl) rfl (xst ttOk rfl rfl (nl (et (ev_ret (ret_pure' ttOk rfl rfl ?_))))))))))))
   first
   | (rw [show seenOk l = false by assumption]; rfl)
   | (rw [show seenOk l = true by assumption, if_pos rfl, find_hit (k := k) om p1 ‹_›]; done)
   | (rw [show seenOk l = true by assumption, if_pos rfl, find_no (k := k) om p1]; rfl)
theorem c_MarkOf2 (l : List Mark) (c : Int) (h : seenOk l = true) : Pure Tryz.prog 41 [one (marks l), one (iC c)] [many' [.v (.int .i64 (findM l c).client), .v (.int .i64 (findM l c).seq), .v (.int .i64 (findM l c).index)]] := by
 have := c_MarkOf l c
 rw [h] at this
 exact this
theorem smD_ok {d : Disk} (h : diskOk d = true) : smD d := by
 obtain ⟨h1, h2, h3, h4, h5⟩ := diskOk_sizes h
 have key : ∀ {α : Type} (f : α → Nat) (c : Nat) (l : List α), (∀ x ∈ l, f x ≤ c) → sumN f l ≤ c * l.length := fun f c l => by
  induction l with
  | nil => simp [sumN]
  | cons a l ih =>
   intro h
   have h6 := h a (by simp)
   have h7 := ih fun x hx => h x (by simp [hx])
   have h8 : c * (a :: l).length = c * l.length + c := by rw [List.length_cons, Nat.mul_succ]
   have h9 : sumN f (a :: l) = f a + sumN f l := by simp [sumN]
   omega
 have k1 := key List.length 48 d.kept fun x hx => (rowOk_nums (h4 x hx)).1
 have k2 := key lenS 49 d.wait fun x hx => by
  have := h5 x hx
  simp only [writeOk, Bool.and_eq_true] at this
  have := (rowOk_nums this.2).1
  unfold lenS; omega
 exact ⟨by omega, by omega, by unfold mkN; omega⟩
theorem smT_ok {t : Two} (h : twoOk t = true) : smT t := ⟨smD_ok (twoOk_both h).1, smD_ok (twoOk_both h).2⟩
theorem smT_zero : smT zeroT := by
 refine ⟨⟨?_, ?_, ?_⟩, ⟨?_, ?_, ?_⟩⟩ <;> decide
def smL (n : LogN) : Prop := smT n.two ∧ n.head.seen.length ≤ 1048576 ∧ n.next.seen.length ≤ 1048576 ∧ n.book.entries.length ≤ 1048576 ∧ n.seen.length ≤ 1048576 ∧ n.owe.length ≤ 1048576
theorem smL_of {n : LogN} (h : logSz n ≤ 1048576) : smL n := by
 unfold logSz at h
 exact ⟨smT_of om, by omega, by omega, by omega, by omega, by omega⟩
def q2 (q : Int) (n : LogN) : Int := q + mkN n.two.a + mkN n.two.b
def q3 (q : Int) (n : LogN) : Int := q2 q n + (3 * n.head.seen.length : Nat)
def q4 (q : Int) (n : LogN) : Int := q3 q n + (3 * n.next.seen.length : Nat)
def q5 (q : Int) (n : LogN) : Int := q4 q n + (9 * n.book.entries.length : Nat)
def q6 (q : Int) (n : LogN) : Int := q5 q n + (3 * n.seen.length : Nat)
def q7 (q : Int) (n : LogN) : Int := q6 q n + (4 * n.owe.length : Nat)
theorem q_at {q : Int} {n : LogN} (h : 0 ≤ q ∧ q ≤ 137438953472) (hs : smL n) : 0 ≤ q2 q n ∧ q2 q n ≤ 274877906944 ∧ 0 ≤ q3 q n ∧ q3 q n ≤ 275877906944 ∧ 0 ≤ q4 q n ∧ q4 q n ≤ 276877906944 ∧ 0 ≤ q5 q n ∧ q5 q n ≤ 287877906944 ∧ 0 ≤ q6 q n ∧ q6 q n ≤ 288877906944 ∧ 0 ≤ q7 q n ∧ q7 q n ≤ 299877906944 := by
 obtain ⟨⟨⟨_, _, h1⟩, _, _, h2⟩, h3, h4, h5, h6, h7⟩ := hs
 unfold q7 q6 q5 q4 q3 q2
 omega
theorem m_book (ty : Nat) (x : Book) (q : Int) (h : 0 ≤ q ∧ q + (9 * x.entries.length : Nat) ≤ 1099511627776) : Marks Tryz.prog 76 (true, [.v (.int .i64 x.base), .v (.int .i64 x.time), .s ty 9 (x.entries.map entryC)]) (true, [.v (.int .i64 x.base), .v (.int .i64 x.time), .s ty 9 (mk9 q x.entries.length)]) q (q + (9 * x.entries.length : Nat)) := by
 refine marks_intro (N := 10) Tryz.func76 rfl rfl rfl rfl (fun w v F => ?_)
 refine sq (rg (evl_e (e_box rfl rfl rfl rfl) (xs rfl rfl (nl (et (sq (rg (xf ttOk rfl rfl (xl ttOk rfl rfl (xm rfl rfl (evl_mark (cf rfl) rfl rfl rfl (m_entries _ _ _ om) rfl rfl rfl (xs rfl rfl (nl (et (sq (rg (xm rfl rfl (xs rfl rfl (nl (et (ev_ret (ret_mark ttOk rfl rfl rfl ?_))))))))))))))))))))))
 exact ⟨rfl, by omega⟩
theorem h_book (m : Nat) (x1 x2 q q2 : Int) (hq : q2 = q) (h : 0 ≤ q ∧ q + (9 * m : Nat) ≤ 2199023255552) : Pure Tryz.prog 80 [many [iC x1, iC x2, .s 9 (mk9 q m)], one (iC q2)] (iR (q + (9 * m : Nat))) := by
 refine pure_intro (N := 12) Tryz.func80 rfl rfl rfl rfl (fun H w => ?_)
 refine sq (rg (evl_e (e_box rfl rfl rfl rfl) (xs rfl rfl (nl (et (sq (rg (xf ttOk rfl rfl (xl ttOk rfl rfl (xm rfl rfl (evl_call (nm := 8) (cf rfl) (h_entries _ _ _ om om) (rs_of rfl) rfl rfl rfl (xs rfl rfl (nl (et (sq (sq (rg (xm rfl rfl (xb ttOk rfl rfl (nl (et (ev_cond rfl (fun h1 => ?_) (fun h1 => ?_)))))))))))))))))))))))
 ·have d1 := of_decide_eq_true h1
  refine sq (rg (xs rfl rfl (nl (et (ev_ret (evr_then (ret_pure' ttOk rfl rfl (congrArg iR (?_ : _ = _)))))))))
  first | omega | rfl
 ·have d1 := of_decide_eq_false h1
  refine ev_skip (et (sq (rg (xm rfl rfl (xs rfl rfl (nl (et (ev_ret (ret_pure' ttOk rfl rfl (congrArg iR (?_ : _ = _)))))))))))
  first | omega | rfl
theorem m_log (t1 t2 t3 t4 t5 t6 t7 t8 t9 : Nat) (n : LogN) (q : Int) (h : 0 ≤ q ∧ q ≤ 137438953472) (hs : smL n) : Marks Tryz.prog 19 (true, [.s t1 1 (n.two.a.kept.map fun r => [ints r]), .s t2 2 (n.two.a.wait.map fun x => [iC x.1, ints x.2]), .s t3 1 (n.two.b.kept.map fun r => [ints r]), .s t4 2 (n.two.b.wait.map fun x => [iC x.1, ints x.2]), .v (.int .i64 n.head.num), .v (.int .i64 n.head.base), .v (.int .i64 n.head.time), .s t5 3 (n.head.seen.map markC), .v (.int .i64 n.next.num), .v (.int .i64 n.next.base), .v (.int .i64 n.next.time), .s t6 3 (n.next.seen.map markC), .v (.bool n.more), .v (.int .i64 n.book.base), .v (.int .i64 n.book.time), .s t7 9 (n.book.entries.map entryC), .s t8 3 (n.seen.map markC), .v (.int .i64 n.durable), .s t9 4 (n.owe.map ackC)]) (true, [.s t1 1 (mkRows q n.two.a.kept), .s t2 2 (mkWrites (q + (sumN List.length n.two.a.kept : Nat)) n.two.a.wait), .s t3 1 (mkRows (q + mkN n.two.a) n.two.b.kept), .s t4 2 (mkWrites (q + mkN n.two.a + (sumN List.length n.two.b.kept : Nat)) n.two.b.wait), .v (.int .i64 n.head.num), .v (.int .i64 n.head.base), .v (.int .i64 n.head.time), .s t5 3 (mk3 (q2 q n) n.head.seen.length), .v (.int .i64 n.next.num), .v (.int .i64 n.next.base), .v (.int .i64 n.next.time), .s t6 3 (mk3 (q3 q n) n.next.seen.length), .v (.bool n.more), .v (.int .i64 n.book.base), .v (.int .i64 n.book.time), .s t7 9 (mk9 (q4 q n) n.book.entries.length), .s t8 3 (mk3 (q5 q n) n.seen.length), .v (.int .i64 n.durable), .s t9 4 (mk4 (q6 q n) n.owe.length)]) q (q7 q n) := by
 refine marks_intro (N := 30) Tryz.func19 rfl rfl rfl rfl (fun w v F => ?_)
 have hq := q_at h hs
 obtain ⟨s1, s2, s3, s4, s5, s6⟩ := hs
 refine sq (rg (evl_e (e_box rfl rfl rfl rfl) (xs rfl rfl (nl (et (sq (rg (xf ttOk rfl rfl (xl ttOk rfl rfl (xm rfl rfl (evl_mark (cf rfl) rfl rfl rfl (m_two _ _ _ _ n.two q om s1) rfl rfl rfl (xs rfl rfl (nl (et (sq (rg (xf ttOk rfl rfl (xl ttOk rfl rfl (xm rfl rfl ?_)))))))))))))))))))
 first | refine evl_mark (cf rfl) rfl rfl rfl (m_head _ n.head (q2 q n) om) rfl rfl rfl ?_ | refine evl_mark (cf rfl) rfl rfl rfl (m_head _ n.next (q3 q n) om) rfl rfl rfl ?_
 refine xs rfl rfl (nl (et (sq (rg (xf ttOk rfl rfl (xl ttOk rfl rfl (xm rfl rfl ?_)))))))
 first | refine evl_mark (cf rfl) rfl rfl rfl (m_head _ n.head (q2 q n) om) rfl rfl rfl ?_ | refine evl_mark (cf rfl) rfl rfl rfl (m_head _ n.next (q3 q n) om) rfl rfl rfl ?_
 refine xs rfl rfl (nl (et (sq (rg (xf ttOk rfl rfl (xl ttOk rfl rfl (xm rfl rfl (evl_mark (cf rfl) rfl rfl rfl (m_book _ n.book (q4 q n) om) rfl rfl rfl (xs rfl rfl (nl (et (sq (rg (xf ttOk rfl rfl (xl ttOk rfl rfl (xm rfl rfl (evl_mark (cf rfl) rfl rfl rfl (m_marks _ n.seen (q5 q n) om) rfl rfl rfl (xs rfl rfl (nl (et (sq (rg (xf ttOk rfl rfl (xl ttOk rfl rfl (xm rfl rfl (evl_mark (cf rfl) rfl rfl rfl (m_acks _ n.owe (q6 q n) om) rfl rfl rfl (xs rfl rfl (nl (et (sq (rg (xm rfl rfl (xs rfl rfl (nl (et (ev_ret (ret_mark ttOk rfl rfl rfl ?_)))))))))))))))))))))))))))))))))))))
 exact ⟨rfl, rfl⟩
theorem h_log (n : LogN) (q qq : Int) (hq2 : qq = q) (h : 0 ≤ q ∧ q ≤ 137438953472) (hs : smL n) : Pure Tryz.prog 21 [many [.s 1 (mkRows q n.two.a.kept), .s 2 (mkWrites (q + (sumN List.length n.two.a.kept : Nat)) n.two.a.wait), .s 1 (mkRows (q + mkN n.two.a) n.two.b.kept), .s 2 (mkWrites (q + mkN n.two.a + (sumN List.length n.two.b.kept : Nat)) n.two.b.wait), iC n.head.num, iC n.head.base, iC n.head.time, .s 3 (mk3 (q2 q n) n.head.seen.length), iC n.next.num, iC n.next.base, iC n.next.time, .s 3 (mk3 (q3 q n) n.next.seen.length), bC n.more, iC n.book.base, iC n.book.time, .s 9 (mk9 (q4 q n) n.book.entries.length), .s 3 (mk3 (q5 q n) n.seen.length), iC n.durable, .s 4 (mk4 (q6 q n) n.owe.length)], one (iC qq)] (iR (q7 q n)) := by
 refine pure_intro (N := 42) Tryz.func21 rfl rfl rfl rfl (fun H w => ?_)
 have hq := q_at h hs
 obtain ⟨s1, s2, s3, s4, s5, s6⟩ := hs
 refine sq (rg (evl_e (e_box rfl rfl rfl rfl) (xs rfl rfl (nl (et (sq (rg (xf ttOk rfl rfl (xl ttOk rfl rfl (xm rfl rfl (evl_call (nm := 8) (cf rfl) (h_two n.two q _ om om s1) (rs_of rfl) rfl rfl rfl (xs rfl rfl (nl (et (sq (sq (rg (xm rfl rfl (xb ttOk rfl rfl (nl (et (ev_cond rfl (fun h1 => ?_) (fun h1 => ?_)))))))))))))))))))))))
 ·have d1 := of_decide_eq_true h1
  refine sq (rg (xs rfl rfl (nl (et (ev_ret (evr_then (ret_pure' ttOk rfl rfl (congrArg iR (?_ : _ = _)))))))))
  first | omega | rfl
 ·have d1 := of_decide_eq_false h1
  refine ev_skip (et (sq (rg (xf ttOk rfl rfl (xl ttOk rfl rfl (xm rfl rfl ?_))))))
  first | refine evl_call (nm := 14) (cf rfl) (h_head n.head.seen.length _ _ _ (q2 q n) _ rfl om) (rs_of rfl) rfl rfl rfl ?_ | refine evl_call (nm := 14) (cf rfl) (h_head n.next.seen.length _ _ _ (q3 q n) _ rfl om) (rs_of rfl) rfl rfl rfl ?_
  refine xs rfl rfl (nl (et (sq (sq (rg (xm rfl rfl (xb ttOk rfl rfl (nl (et (ev_cond rfl (fun h2 => ?_) (fun h2 => ?_)))))))))))
  ·have d2 := of_decide_eq_true h2
   refine sq (rg (xs rfl rfl (nl (et (ev_ret (evr_then (ret_pure' ttOk rfl rfl (congrArg iR (?_ : _ = _)))))))))
   first | omega | rfl
  ·have d2 := of_decide_eq_false h2
   refine ev_skip (et (sq (rg (xf ttOk rfl rfl (xl ttOk rfl rfl (xm rfl rfl ?_))))))
   first | refine evl_call (nm := 20) (cf rfl) (h_head n.head.seen.length _ _ _ (q2 q n) _ rfl om) (rs_of rfl) rfl rfl rfl ?_ | refine evl_call (nm := 20) (cf rfl) (h_head n.next.seen.length _ _ _ (q3 q n) _ rfl om) (rs_of rfl) rfl rfl rfl ?_
   refine xs rfl rfl (nl (et (sq (sq (rg (xm rfl rfl (xb ttOk rfl rfl (nl (et (ev_cond rfl (fun h3 => ?_) (fun h3 => ?_)))))))))))
   ·have d3 := of_decide_eq_true h3
    refine sq (rg (xs rfl rfl (nl (et (ev_ret (evr_then (ret_pure' ttOk rfl rfl (congrArg iR (?_ : _ = _)))))))))
    first | omega | rfl
   ·have d3 := of_decide_eq_false h3
    refine ev_skip (et (sq (rg (xf ttOk rfl rfl (xl ttOk rfl rfl (xm rfl rfl (evl_call (nm := 26) (cf rfl) (h_book n.book.entries.length _ _ (q4 q n) _ rfl om) (rs_of rfl) rfl rfl rfl (xs rfl rfl (nl (et (ev_pr [1, 2, 4, 27, 28, 29, 30, 31, 32, 33, 34, 35, 36, 37, 38, 39, 40, 41] rfl (sq (sq (rg (xm rfl rfl (xb ttOk rfl rfl (nl (et (ev_cond rfl (fun h4 => ?_) (fun h4 => ?_))))))))))))))))))))
    ·have d4 := of_decide_eq_true h4
     refine sq (rg (xs rfl rfl (nl (et (ev_ret (evr_then (ret_pure' ttOk rfl rfl (congrArg iR (?_ : _ = _)))))))))
     first | omega | rfl
    ·have d4 := of_decide_eq_false h4
     refine ev_skip (et (sq (rg (xf ttOk rfl rfl (xl ttOk rfl rfl (xm rfl rfl (evl_call (nm := 32) (cf rfl) (h_marks n.seen.length (q5 q n) _ rfl om) (rs_of rfl) rfl rfl rfl (xs rfl rfl (nl (et (sq (sq (rg (xm rfl rfl (xb ttOk rfl rfl (nl (et (ev_cond rfl (fun h5 => ?_) (fun h5 => ?_)))))))))))))))))))
     ·have d5 := of_decide_eq_true h5
      refine sq (rg (xs rfl rfl (nl (et (ev_ret (evr_then (ret_pure' ttOk rfl rfl (congrArg iR (?_ : _ = _)))))))))
      first | omega | rfl
     ·have d5 := of_decide_eq_false h5
      refine ev_skip (et (sq (rg (xf ttOk rfl rfl (xl ttOk rfl rfl (xm rfl rfl (evl_call (nm := 38) (cf rfl) (h_acks n.owe.length (q6 q n) _ rfl om) (rs_of rfl) rfl rfl rfl (xs rfl rfl (nl (et (sq (sq (rg (xm rfl rfl (xb ttOk rfl rfl (nl (et (ev_cond rfl (fun h6 => ?_) (fun h6 => ?_)))))))))))))))))))
      ·have d6 := of_decide_eq_true h6
       refine sq (rg (xs rfl rfl (nl (et (ev_ret (evr_then (ret_pure' ttOk rfl rfl (congrArg iR (?_ : _ = _)))))))))
       first | omega | rfl
      ·have d6 := of_decide_eq_false h6
       refine ev_skip (et (sq (rg (xm rfl rfl (xs rfl rfl (nl (et (ev_ret (ret_pure' ttOk rfl rfl (congrArg iR (?_ : _ = _)))))))))))
       first | omega | rfl
end Go.Proofs.YtinmcdcmidlgpaaGreatDoor
