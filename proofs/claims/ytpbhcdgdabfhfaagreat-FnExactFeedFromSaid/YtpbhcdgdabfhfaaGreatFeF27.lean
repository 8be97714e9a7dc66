/- Walks of functions of the program, printed by a program of the prover. -/
import Derived.Test.YtpbhcdgdabfhfaaGreatFeF25
namespace Go.Proofs.YtpbhcdgdabfhfaaGreat
open Go.ChangeShapes Go.WideShapes Go.ChangeAt Go.RowKit
set_option linter.unusedVariables false
set_option linter.unusedSimpArgs false
set_option maxHeartbeats 1000000
set_option maxRecDepth 100000
attribute [local irreducible] EvL Ev EvE Quiet Eff Pure RDk RDb RDo
def noMark : Mark := ⟨0, 0, 0⟩
def findM (l : List Mark) (c : Int) : Mark := (l.find? fun m => decide (m.client = c)).getD noMark
theorem find_hit {l : List Mark} {c : Int} {k : Nat} (hk : k < l.length) (h : ∀ m ∈ l.take k, m.client ≠ c) (hc : l[k].client = c) : findM l c = l[k] := by
  have e : l.find? (fun m => decide (m.client = c)) = some l[k] := by
    conv => lhs; rw [← List.take_append_drop k l, List.drop_eq_getElem_cons hk]
    rw [List.find?_append, List.find?_eq_none.2 (by simpa using h), List.find?_cons_of_pos (by simpa using hc)]
    rfl
  simp [findM, e]
theorem find_no {l : List Mark} {c : Int} {k : Nat} (hk : ¬ k < l.length) (h : ∀ m ∈ l.take k, m.client ≠ c) : findM l c = noMark := by
  rw [List.take_of_length_le (by omega)] at h
  have e : l.find? (fun m => decide (m.client = c)) = none := List.find?_eq_none.2 (by simpa using h)
  simp [findM, e]
theorem c_MarkOf (l : List Mark) (c : Int) : Pure Tryz.prog 188 [one (marks l), one (iC c)] [many' [.v (.int .i64 (if seenOk l then findM l c else noMark).client), .v (.int .i64 (if seenOk l then findM l c else noMark).seq), .v (.int .i64 (if seenOk l then findM l c else noMark).index)]] := by
 refine pure_intro (N := 28) Tryz.func188 rfl rfl rfl rfl (fun H w => ?_)
 refine ev_lenm (t := 0) rfl (fun hL => ?_)
 refine sq (rg (evl_e (e_alloc ttOk rfl rfl rfl rfl) (nl (et (sq (sq (rg (xm rfl rfl (evl_call (nm := 7) (cf rfl) (c_SeenOk l) (rs_of rfl) rfl rfl rfl (xo (q_not rfl) rfl (nl (et (ev_cond_n rfl (fun h1 => ?_) (fun h1 => ?_))))))))))))))
 · try have d1 := of_decide_eq_false h1
   refine sq (rg (xo (q_build ttOk rfl) rfl (xst ttOk rfl rfl (nl (et (ev_ret (evr_then (ret_pure' ttOk rfl rfl ?_))))))))
   first
   | (rw [show seenOk l = false by assumption]; rfl)
   | (rw [show seenOk l = true by assumption, if_pos rfl, find_hit (k := k) (by omega) p1 (by assumption)]; done)
   | (rw [show seenOk l = true by assumption, if_pos rfl, find_no (k := k) (by omega) p1]; rfl)
 · try have d1 := of_decide_eq_true h1
   refine ev_skip (et (sq (sq (rg (xs rfl rfl (nl (et (ev_blk (ev_loop (fun k : Nat => (⟨[(5, iV k), (0, cV (marks l)), (1, iV c), (4, pbV 4 0)], [(4, 156, [.c (iC 0), .c (iC 0), .c (iC 0)])], [], []⟩ : St)) (fun k => k ≤ l.length ∧ ∀ m ∈ l.take k, m.client ≠ c) (fun k => l.length - k) 0 [] (⟨by simp, by simp⟩) ⟨by (repeat first | exact trivial | refine ⟨rfl, ?_⟩), by (repeat first | exact trivial | refine ⟨rfl, ?_⟩), by (repeat first | exact trivial | refine ⟨⟨_, rfl, rfl⟩, ?_⟩), by (repeat first | exact trivial | refine ⟨⟨_, rfl, rfl⟩, ?_⟩), rfl⟩ ?_)))))))))
   intro k hp
   obtain ⟨p0, p1⟩ := hp
   show Ev _ _ _ _ (⟨[(5, iV k), (0, cV (marks l)), (1, iV c), (4, pbV 4 0)], [(4, 156, [.c (iC 0), .c (iC 0), .c (iC 0)])], [], []⟩ : St)
   refine sq (sq (rg (xm rfl rfl (xm rfl rfl (xo (q_len_map ttOk rfl rfl) rfl (xb ttOk rfl rfl (nl (et (ev_cond rfl (fun h2 => ?_) (fun h2 => ?_))))))))))
   · try have d2 := of_decide_eq_true h2
     refine ev_skip (et (sq (ev_blk (sq (rg (xm rfl rfl (xm rfl rfl (xo (q_ix_map ttOk rfl rfl rfl rfl (by omega)) rfl (xf ttOk rfl rfl (xl ttOk rfl rfl (xm rfl rfl (xb ttOk rfl rfl (nl (et (ev_cond rfl (fun h3 => ?_) (fun h3 => ?_))))))))))))))))
     · try have d3 := of_decide_eq_true h3
       refine sq (rg (xm rfl rfl (xm rfl rfl (xo (q_ix_map ttOk rfl rfl rfl rfl (by omega)) rfl (xl ttOk rfl rfl (xst ttOk rfl rfl (nl (et (ev_ret (evr_blk (evr_then (evr_then (evr_blk (evr_then (ret_pure' ttOk rfl rfl ?_)))))))))))))))
       first
       | (rw [show seenOk l = false by assumption]; rfl)
       | (rw [show seenOk l = true by assumption, if_pos rfl, find_hit (k := k) (by omega) p1 (by assumption)]; done)
       | (rw [show seenOk l = true by assumption, if_pos rfl, find_no (k := k) (by omega) p1]; rfl)
     · try have d3 := of_decide_eq_false h3
       refine ev_skip (eb (et (rg (xm rfl rfl (xa rfl rfl rfl (by omega) rfl (xs rfl rfl (nl (eve_round (k + 1) [] ?hp ⟨by (repeat first | exact trivial | refine ⟨rfl, ?_⟩), by (repeat first | exact trivial | refine ⟨rfl, ?_⟩), by (repeat first | exact trivial | refine ⟨⟨_, rfl, rfl⟩, ?_⟩), by (repeat first | exact trivial | refine ⟨⟨_, rfl, rfl⟩, ?_⟩), rfl⟩))))))))
       case hp => exact ⟨⟨by omega, all_takeP (by omega) p1 (by assumption)⟩, by omega⟩
   · try have d2 := of_decide_eq_false h2
     refine ev_exit (evx_then (evx_then (evx_hit (et (sq (rg (xo (q_build ttOk rfl) rfl (xst ttOk rfl rfl (nl (et (ev_ret (ret_pure' ttOk rfl rfl ?_))))))))))))
     first
     | (rw [show seenOk l = false by assumption]; rfl)
     | (rw [show seenOk l = true by assumption, if_pos rfl, find_hit (k := k) (by omega) p1 (by assumption)]; done)
     | (rw [show seenOk l = true by assumption, if_pos rfl, find_no (k := k) (by omega) p1]; rfl)
theorem c_MarkOf2 (l : List Mark) (c : Int) (h : seenOk l = true) : Pure Tryz.prog 188 [one (marks l), one (iC c)] [many' [.v (.int .i64 (findM l c).client), .v (.int .i64 (findM l c).seq), .v (.int .i64 (findM l c).index)]] := by
  have := c_MarkOf l c
  rw [h] at this
  exact this
end Go.Proofs.YtpbhcdgdabfhfaaGreat
namespace Go.Proofs.YtpbhcdgdabfhfaaGreat
open Go.ChangeShapes Go.WideShapes Go.ChangeAt Go.RowKit
set_option linter.unusedVariables false
set_option linter.unusedSimpArgs false
set_option maxHeartbeats 1000000
set_option maxRecDepth 100000
attribute [local irreducible] EvL Ev EvE Quiet Eff Pure RDk RDb RDo
def smL (n : LogN) : Prop := smT n.two ∧ n.head.seen.length ≤ 1048576 ∧ n.next.seen.length ≤ 1048576 ∧ n.book.entries.length ≤ 1048576 ∧ n.seen.length ≤ 1048576 ∧ n.owe.length ≤ 1048576
theorem smL_of {n : LogN} (h : logSz n ≤ 1048576) : smL n := by
  unfold logSz at h
  exact ⟨smT_of (by omega), by omega, by omega, by omega, by omega, by omega⟩
def q2 (q : Int) (n : LogN) : Int := q + mkN n.two.a + mkN n.two.b
def q3 (q : Int) (n : LogN) : Int := q2 q n + (3 * n.head.seen.length : Nat)
def q4 (q : Int) (n : LogN) : Int := q3 q n + (3 * n.next.seen.length : Nat)
def q5 (q : Int) (n : LogN) : Int := q4 q n + (9 * n.book.entries.length : Nat)
def q6 (q : Int) (n : LogN) : Int := q5 q n + (3 * n.seen.length : Nat)
def q7 (q : Int) (n : LogN) : Int := q6 q n + (4 * n.owe.length : Nat)
theorem q_at {q : Int} {n : LogN} (h : 0 ≤ q ∧ q ≤ 137438953472) (hs : smL n) : 0 ≤ q2 q n ∧ q2 q n ≤ 274877906944 ∧ 0 ≤ q3 q n ∧ q3 q n ≤ 275877906944 ∧ 0 ≤ q4 q n ∧ q4 q n ≤ 276877906944 ∧ 0 ≤ q5 q n ∧ q5 q n ≤ 287877906944 ∧ 0 ≤ q6 q n ∧ q6 q n ≤ 288877906944 ∧ 0 ≤ q7 q n ∧ q7 q n ≤ 299877906944 := by
  obtain ⟨⟨⟨_, _, h1⟩, _, _, h2⟩, h3, h4, h5, h6, h7⟩ := hs
  unfold q7 q6 q5 q4 q3 q2
  omega
theorem m_book (ty : Nat) (x : Book) (q : Int) (h : 0 ≤ q ∧ q + (9 * x.entries.length : Nat) ≤ 1099511627776) : Marks Tryz.prog 33 (true, [.v (.int .i64 x.base), .v (.int .i64 x.time), .s ty 9 (x.entries.map entryC)]) (true, [.v (.int .i64 x.base), .v (.int .i64 x.time), .s ty 9 (mk9 q x.entries.length)]) q (q + (9 * x.entries.length : Nat)) := by
 refine marks_intro (N := 10) Tryz.func33 rfl rfl rfl rfl (fun w v F => ?_)
 refine sq (rg (evl_e (e_box rfl rfl rfl rfl) (xs rfl rfl (nl (et (sq (rg (xf ttOk rfl rfl (xl ttOk rfl rfl (xm rfl rfl (evl_mark (cf rfl) rfl rfl rfl (m_entries _ _ _ (by omega)) rfl rfl rfl (xs rfl rfl (nl (et (sq (rg (xm rfl rfl (xs rfl rfl (nl (et (ev_ret (ret_mark ttOk rfl rfl rfl ?_))))))))))))))))))))))
 exact ⟨rfl, by omega⟩
theorem m_log (t1 t2 t3 t4 t5 t6 t7 t8 t9 : Nat) (n : LogN) (q : Int) (h : 0 ≤ q ∧ q ≤ 137438953472) (hs : smL n) : Marks Tryz.prog 16 (true, [.s t1 1 (n.two.a.kept.map fun r => [ints r]), .s t2 2 (n.two.a.wait.map fun x => [iC x.1, ints x.2]), .s t3 1 (n.two.b.kept.map fun r => [ints r]), .s t4 2 (n.two.b.wait.map fun x => [iC x.1, ints x.2]), .v (.int .i64 n.head.num), .v (.int .i64 n.head.base), .v (.int .i64 n.head.time), .s t5 3 (n.head.seen.map markC), .v (.int .i64 n.next.num), .v (.int .i64 n.next.base), .v (.int .i64 n.next.time), .s t6 3 (n.next.seen.map markC), .v (.bool n.more), .v (.int .i64 n.book.base), .v (.int .i64 n.book.time), .s t7 9 (n.book.entries.map entryC), .s t8 3 (n.seen.map markC), .v (.int .i64 n.durable), .s t9 4 (n.owe.map ackC)]) (true, [.s t1 1 (mkRows q n.two.a.kept), .s t2 2 (mkWrites (q + (sumN List.length n.two.a.kept : Nat)) n.two.a.wait), .s t3 1 (mkRows (q + mkN n.two.a) n.two.b.kept), .s t4 2 (mkWrites (q + mkN n.two.a + (sumN List.length n.two.b.kept : Nat)) n.two.b.wait), .v (.int .i64 n.head.num), .v (.int .i64 n.head.base), .v (.int .i64 n.head.time), .s t5 3 (mk3 (q2 q n) n.head.seen.length), .v (.int .i64 n.next.num), .v (.int .i64 n.next.base), .v (.int .i64 n.next.time), .s t6 3 (mk3 (q3 q n) n.next.seen.length), .v (.bool n.more), .v (.int .i64 n.book.base), .v (.int .i64 n.book.time), .s t7 9 (mk9 (q4 q n) n.book.entries.length), .s t8 3 (mk3 (q5 q n) n.seen.length), .v (.int .i64 n.durable), .s t9 4 (mk4 (q6 q n) n.owe.length)]) q (q7 q n) := by
 refine marks_intro (N := 30) Tryz.func16 rfl rfl rfl rfl (fun w v F => ?_)
 have hq := q_at h hs
 obtain ⟨s1, s2, s3, s4, s5, s6⟩ := hs
 refine sq (rg (evl_e (e_box rfl rfl rfl rfl) (xs rfl rfl (nl (et (sq (rg (xf ttOk rfl rfl (xl ttOk rfl rfl (xm rfl rfl (evl_mark (cf rfl) rfl rfl rfl (m_two _ _ _ _ n.two q (by omega) s1) rfl rfl rfl (xs rfl rfl (nl (et (sq (rg (xf ttOk rfl rfl (xl ttOk rfl rfl (xm rfl rfl ?_)))))))))))))))))))
 first | refine evl_mark (cf rfl) rfl rfl rfl (m_head _ n.head (q2 q n) (by omega)) rfl rfl rfl ?_ | refine evl_mark (cf rfl) rfl rfl rfl (m_head _ n.next (q3 q n) (by omega)) rfl rfl rfl ?_
 refine xs rfl rfl (nl (et (sq (rg (xf ttOk rfl rfl (xl ttOk rfl rfl (xm rfl rfl ?_)))))))
 first | refine evl_mark (cf rfl) rfl rfl rfl (m_head _ n.head (q2 q n) (by omega)) rfl rfl rfl ?_ | refine evl_mark (cf rfl) rfl rfl rfl (m_head _ n.next (q3 q n) (by omega)) rfl rfl rfl ?_
 refine xs rfl rfl (nl (et (sq (rg (xf ttOk rfl rfl (xl ttOk rfl rfl (xm rfl rfl (evl_mark (cf rfl) rfl rfl rfl (m_book _ n.book (q4 q n) (by omega)) rfl rfl rfl (xs rfl rfl (nl (et (sq (rg (xf ttOk rfl rfl (xl ttOk rfl rfl (xm rfl rfl (evl_mark (cf rfl) rfl rfl rfl (m_marks _ n.seen (q5 q n) (by omega)) rfl rfl rfl (xs rfl rfl (nl (et (sq (rg (xf ttOk rfl rfl (xl ttOk rfl rfl (xm rfl rfl (evl_mark (cf rfl) rfl rfl rfl (m_acks _ n.owe (q6 q n) (by omega)) rfl rfl rfl (xs rfl rfl (nl (et (sq (rg (xm rfl rfl (xs rfl rfl (nl (et (ev_ret (ret_mark ttOk rfl rfl rfl ?_)))))))))))))))))))))))))))))))))))))
 exact ⟨rfl, rfl⟩
end Go.Proofs.YtpbhcdgdabfhfaaGreat
