/- Walks of functions of the program, printed by a program of the prover. -/
import Derived.Test.YtphaggopgdbojaaGreatRiF26
namespace Go.Proofs.YtphaggopgdbojaaGreat
open Go.ChangeShapes Go.WideShapes Go.ChangeAt Go.RowKit
set_option linter.unusedVariables false
set_option linter.unusedSimpArgs false
set_option maxHeartbeats 1000000
set_option maxRecDepth 100000
attribute [local irreducible] EvL Ev EvE Quiet Eff Pure RDk RDb RDo
theorem smD_ok {d : Disk} (h : diskOk d = true) : smD d := by
  obtain ⟨h1, h2, h3, h4, h5⟩ := diskOk_sizes h
  have key : ∀ {α : Type} (f : α → Nat) (c : Nat) (l : List α), (∀ x ∈ l, f x ≤ c) → sumN f l ≤ c * l.length := fun f c l => by
    induction l with
    | nil => simp [sumN]
    | cons a l ih =>
      intro h
      have h6 := h a (by simp)
      have h7 := ih fun x hx => h x (by simp [hx])
      have h8 : c * (a :: l).length = c * l.length + c := by rw [List.length_cons, Nat.mul_succ]
      have h9 : sumN f (a :: l) = f a + sumN f l := by simp [sumN]
      omega
  have k1 := key List.length 48 d.kept fun x hx => (rowOk_nums (h4 x hx)).1
  have k2 := key lenS 49 d.wait fun x hx => by
    have := h5 x hx
    simp only [writeOk, Bool.and_eq_true] at this
    have := (rowOk_nums this.2).1
    unfold lenS; omega
  exact ⟨by omega, by omega, by unfold mkN; omega⟩
theorem smT_ok {t : Two} (h : twoOk t = true) : smT t := ⟨smD_ok (twoOk_both h).1, smD_ok (twoOk_both h).2⟩
theorem smT_zero : smT zeroT := by
  refine ⟨⟨?_, ?_, ?_⟩, ⟨?_, ?_, ?_⟩⟩ <;> decide
def smL (n : LogN) : Prop := smT n.two ∧ n.head.seen.length ≤ 1048576 ∧ n.next.seen.length ≤ 1048576 ∧ n.book.entries.length ≤ 1048576 ∧ n.seen.length ≤ 1048576 ∧ n.owe.length ≤ 1048576
theorem smL_of {n : LogN} (h : logSz n ≤ 1048576) : smL n := by
  unfold logSz at h
  exact ⟨smT_of (by omega), by omega, by omega, by omega, by omega, by omega⟩
def q2 (q : Int) (n : LogN) : Int := q + mkN n.two.a + mkN n.two.b
def q3 (q : Int) (n : LogN) : Int := q2 q n + (3 * n.head.seen.length : Nat)
def q4 (q : Int) (n : LogN) : Int := q3 q n + (3 * n.next.seen.length : Nat)
def q5 (q : Int) (n : LogN) : Int := q4 q n + (9 * n.book.entries.length : Nat)
def q6 (q : Int) (n : LogN) : Int := q5 q n + (3 * n.seen.length : Nat)
def q7 (q : Int) (n : LogN) : Int := q6 q n + (4 * n.owe.length : Nat)
theorem q_at {q : Int} {n : LogN} (h : 0 ≤ q ∧ q ≤ 137438953472) (hs : smL n) : 0 ≤ q2 q n ∧ q2 q n ≤ 274877906944 ∧ 0 ≤ q3 q n ∧ q3 q n ≤ 275877906944 ∧ 0 ≤ q4 q n ∧ q4 q n ≤ 276877906944 ∧ 0 ≤ q5 q n ∧ q5 q n ≤ 287877906944 ∧ 0 ≤ q6 q n ∧ q6 q n ≤ 288877906944 ∧ 0 ≤ q7 q n ∧ q7 q n ≤ 299877906944 := by
  obtain ⟨⟨⟨_, _, h1⟩, _, _, h2⟩, h3, h4, h5, h6, h7⟩ := hs
  unfold q7 q6 q5 q4 q3 q2
  omega
theorem m_book (ty : Nat) (x : Book) (q : Int) (h : 0 ≤ q ∧ q + (9 * x.entries.length : Nat) ≤ 1099511627776) : Marks Tryz.prog 29 (true, [.v (.int .i64 x.base), .v (.int .i64 x.time), .s ty 9 (x.entries.map entryC)]) (true, [.v (.int .i64 x.base), .v (.int .i64 x.time), .s ty 9 (mk9 q x.entries.length)]) q (q + (9 * x.entries.length : Nat)) := by
 refine marks_intro (N := 10) Tryz.func29 rfl rfl rfl rfl (fun w v F => ?_)
 refine sq (rg (evl_e (e_box rfl rfl rfl rfl) (xs rfl rfl (nl (et (sq (rg (xf ttOk rfl rfl (xl ttOk rfl rfl (xm rfl rfl (evl_mark (cf rfl) rfl rfl rfl (m_entries _ _ _ (by omega)) rfl rfl rfl (xs rfl rfl (nl (et (sq (rg (xm rfl rfl (xs rfl rfl (nl (et (ev_ret (ret_mark ttOk rfl rfl rfl ?_))))))))))))))))))))))
 exact ⟨rfl, by omega⟩
theorem h_book (m : Nat) (x1 x2 q q2 : Int) (hq : q2 = q) (h : 0 ≤ q ∧ q + (9 * m : Nat) ≤ 2199023255552) : Pure Tryz.prog 30 [many [iC x1, iC x2, .s 9 (mk9 q m)], one (iC q2)] (iR (q + (9 * m : Nat))) := by
 refine pure_intro (N := 12) Tryz.func30 rfl rfl rfl rfl (fun H w => ?_)
 refine sq (rg (evl_e (e_box rfl rfl rfl rfl) (xs rfl rfl (nl (et (sq (rg (xf ttOk rfl rfl (xl ttOk rfl rfl (xm rfl rfl (evl_call (nm := 8) (cf rfl) (h_entries _ _ _ (by omega) (by omega)) (rs_of rfl) rfl rfl rfl (xs rfl rfl (nl (et (sq (sq (rg (xm rfl rfl (xb ttOk rfl rfl (nl (et (ev_cond rfl (fun h1 => ?_) (fun h1 => ?_)))))))))))))))))))))))
 · have d1 := of_decide_eq_true h1
   refine sq (rg (xs rfl rfl (nl (et (ev_ret (evr_then (ret_pure' ttOk rfl rfl (congrArg iR (?_ : _ = _)))))))))
   first | omega | rfl
 · have d1 := of_decide_eq_false h1
   refine ev_skip (et (sq (rg (xm rfl rfl (xs rfl rfl (nl (et (ev_ret (ret_pure' ttOk rfl rfl (congrArg iR (?_ : _ = _)))))))))))
   first | omega | rfl
theorem m_log (t1 t2 t3 t4 t5 t6 t7 t8 t9 : Nat) (n : LogN) (q : Int) (h : 0 ≤ q ∧ q ≤ 137438953472) (hs : smL n) : Marks Tryz.prog 14 (true, [.s t1 1 (n.two.a.kept.map fun r => [ints r]), .s t2 2 (n.two.a.wait.map fun x => [iC x.1, ints x.2]), .s t3 1 (n.two.b.kept.map fun r => [ints r]), .s t4 2 (n.two.b.wait.map fun x => [iC x.1, ints x.2]), .v (.int .i64 n.head.num), .v (.int .i64 n.head.base), .v (.int .i64 n.head.time), .s t5 3 (n.head.seen.map markC), .v (.int .i64 n.next.num), .v (.int .i64 n.next.base), .v (.int .i64 n.next.time), .s t6 3 (n.next.seen.map markC), .v (.bool n.more), .v (.int .i64 n.book.base), .v (.int .i64 n.book.time), .s t7 9 (n.book.entries.map entryC), .s t8 3 (n.seen.map markC), .v (.int .i64 n.durable), .s t9 4 (n.owe.map ackC)]) (true, [.s t1 1 (mkRows q n.two.a.kept), .s t2 2 (mkWrites (q + (sumN List.length n.two.a.kept : Nat)) n.two.a.wait), .s t3 1 (mkRows (q + mkN n.two.a) n.two.b.kept), .s t4 2 (mkWrites (q + mkN n.two.a + (sumN List.length n.two.b.kept : Nat)) n.two.b.wait), .v (.int .i64 n.head.num), .v (.int .i64 n.head.base), .v (.int .i64 n.head.time), .s t5 3 (mk3 (q2 q n) n.head.seen.length), .v (.int .i64 n.next.num), .v (.int .i64 n.next.base), .v (.int .i64 n.next.time), .s t6 3 (mk3 (q3 q n) n.next.seen.length), .v (.bool n.more), .v (.int .i64 n.book.base), .v (.int .i64 n.book.time), .s t7 9 (mk9 (q4 q n) n.book.entries.length), .s t8 3 (mk3 (q5 q n) n.seen.length), .v (.int .i64 n.durable), .s t9 4 (mk4 (q6 q n) n.owe.length)]) q (q7 q n) := by
 refine marks_intro (N := 30) Tryz.func14 rfl rfl rfl rfl (fun w v F => ?_)
 have hq := q_at h hs
 obtain ⟨s1, s2, s3, s4, s5, s6⟩ := hs
 refine sq (rg (evl_e (e_box rfl rfl rfl rfl) (xs rfl rfl (nl (et (sq (rg (xf ttOk rfl rfl (xl ttOk rfl rfl (xm rfl rfl (evl_mark (cf rfl) rfl rfl rfl (m_two _ _ _ _ n.two q (by omega) s1) rfl rfl rfl (xs rfl rfl (nl (et (sq (rg (xf ttOk rfl rfl (xl ttOk rfl rfl (xm rfl rfl ?_)))))))))))))))))))
 first | refine evl_mark (cf rfl) rfl rfl rfl (m_head _ n.head (q2 q n) (by omega)) rfl rfl rfl ?_ | refine evl_mark (cf rfl) rfl rfl rfl (m_head _ n.next (q3 q n) (by omega)) rfl rfl rfl ?_
 refine xs rfl rfl (nl (et (sq (rg (xf ttOk rfl rfl (xl ttOk rfl rfl (xm rfl rfl ?_)))))))
 first | refine evl_mark (cf rfl) rfl rfl rfl (m_head _ n.head (q2 q n) (by omega)) rfl rfl rfl ?_ | refine evl_mark (cf rfl) rfl rfl rfl (m_head _ n.next (q3 q n) (by omega)) rfl rfl rfl ?_
 refine xs rfl rfl (nl (et (sq (rg (xf ttOk rfl rfl (xl ttOk rfl rfl (xm rfl rfl (evl_mark (cf rfl) rfl rfl rfl (m_book _ n.book (q4 q n) (by omega)) rfl rfl rfl (xs rfl rfl (nl (et (sq (rg (xf ttOk rfl rfl (xl ttOk rfl rfl (xm rfl rfl (evl_mark (cf rfl) rfl rfl rfl (m_marks _ n.seen (q5 q n) (by omega)) rfl rfl rfl (xs rfl rfl (nl (et (sq (rg (xf ttOk rfl rfl (xl ttOk rfl rfl (xm rfl rfl (evl_mark (cf rfl) rfl rfl rfl (m_acks _ n.owe (q6 q n) (by omega)) rfl rfl rfl (xs rfl rfl (nl (et (sq (rg (xm rfl rfl (xs rfl rfl (nl (et (ev_ret (ret_mark ttOk rfl rfl rfl ?_)))))))))))))))))))))))))))))))))))))
 exact ⟨rfl, rfl⟩
theorem h_log (n : LogN) (q qq : Int) (hq2 : qq = q) (h : 0 ≤ q ∧ q ≤ 137438953472) (hs : smL n) : Pure Tryz.prog 15 [many [.s 1 (mkRows q n.two.a.kept), .s 2 (mkWrites (q + (sumN List.length n.two.a.kept : Nat)) n.two.a.wait), .s 1 (mkRows (q + mkN n.two.a) n.two.b.kept), .s 2 (mkWrites (q + mkN n.two.a + (sumN List.length n.two.b.kept : Nat)) n.two.b.wait), iC n.head.num, iC n.head.base, iC n.head.time, .s 3 (mk3 (q2 q n) n.head.seen.length), iC n.next.num, iC n.next.base, iC n.next.time, .s 3 (mk3 (q3 q n) n.next.seen.length), bC n.more, iC n.book.base, iC n.book.time, .s 9 (mk9 (q4 q n) n.book.entries.length), .s 3 (mk3 (q5 q n) n.seen.length), iC n.durable, .s 4 (mk4 (q6 q n) n.owe.length)], one (iC qq)] (iR (q7 q n)) := by
 refine pure_intro (N := 42) Tryz.func15 rfl rfl rfl rfl (fun H w => ?_)
 have hq := q_at h hs
 obtain ⟨s1, s2, s3, s4, s5, s6⟩ := hs
 refine sq (rg (evl_e (e_box rfl rfl rfl rfl) (xs rfl rfl (nl (et (sq (rg (xf ttOk rfl rfl (xl ttOk rfl rfl (xm rfl rfl (evl_call (nm := 8) (cf rfl) (h_two n.two q _ (by omega) (by omega) s1) (rs_of rfl) rfl rfl rfl (xs rfl rfl (nl (et (sq (sq (rg (xm rfl rfl (xb ttOk rfl rfl (nl (et (ev_cond rfl (fun h1 => ?_) (fun h1 => ?_)))))))))))))))))))))))
 · have d1 := of_decide_eq_true h1
   refine sq (rg (xs rfl rfl (nl (et (ev_ret (evr_then (ret_pure' ttOk rfl rfl (congrArg iR (?_ : _ = _)))))))))
   first | omega | rfl
 · have d1 := of_decide_eq_false h1
   refine ev_skip (et (sq (rg (xf ttOk rfl rfl (xl ttOk rfl rfl (xm rfl rfl ?_))))))
   first | refine evl_call (nm := 14) (cf rfl) (h_head n.head.seen.length _ _ _ (q2 q n) _ rfl (by omega)) (rs_of rfl) rfl rfl rfl ?_ | refine evl_call (nm := 14) (cf rfl) (h_head n.next.seen.length _ _ _ (q3 q n) _ rfl (by omega)) (rs_of rfl) rfl rfl rfl ?_
   refine xs rfl rfl (nl (et (sq (sq (rg (xm rfl rfl (xb ttOk rfl rfl (nl (et (ev_cond rfl (fun h2 => ?_) (fun h2 => ?_)))))))))))
   · have d2 := of_decide_eq_true h2
     refine sq (rg (xs rfl rfl (nl (et (ev_ret (evr_then (ret_pure' ttOk rfl rfl (congrArg iR (?_ : _ = _)))))))))
     first | omega | rfl
   · have d2 := of_decide_eq_false h2
     refine ev_skip (et (sq (rg (xf ttOk rfl rfl (xl ttOk rfl rfl (xm rfl rfl ?_))))))
     first | refine evl_call (nm := 20) (cf rfl) (h_head n.head.seen.length _ _ _ (q2 q n) _ rfl (by omega)) (rs_of rfl) rfl rfl rfl ?_ | refine evl_call (nm := 20) (cf rfl) (h_head n.next.seen.length _ _ _ (q3 q n) _ rfl (by omega)) (rs_of rfl) rfl rfl rfl ?_
     refine xs rfl rfl (nl (et (sq (sq (rg (xm rfl rfl (xb ttOk rfl rfl (nl (et (ev_cond rfl (fun h3 => ?_) (fun h3 => ?_)))))))))))
     · have d3 := of_decide_eq_true h3
       refine sq (rg (xs rfl rfl (nl (et (ev_ret (evr_then (ret_pure' ttOk rfl rfl (congrArg iR (?_ : _ = _)))))))))
       first | omega | rfl
     · have d3 := of_decide_eq_false h3
       refine ev_skip (et (sq (rg (xf ttOk rfl rfl (xl ttOk rfl rfl (xm rfl rfl (evl_call (nm := 26) (cf rfl) (h_book n.book.entries.length _ _ (q4 q n) _ rfl (by omega)) (rs_of rfl) rfl rfl rfl (xs rfl rfl (nl (et (ev_pr [1, 2, 4, 27, 28, 29, 30, 31, 32, 33, 34, 35, 36, 37, 38, 39, 40, 41] rfl (sq (sq (rg (xm rfl rfl (xb ttOk rfl rfl (nl (et (ev_cond rfl (fun h4 => ?_) (fun h4 => ?_))))))))))))))))))))
       · have d4 := of_decide_eq_true h4
         refine sq (rg (xs rfl rfl (nl (et (ev_ret (evr_then (ret_pure' ttOk rfl rfl (congrArg iR (?_ : _ = _)))))))))
         first | omega | rfl
       · have d4 := of_decide_eq_false h4
         refine ev_skip (et (sq (rg (xf ttOk rfl rfl (xl ttOk rfl rfl (xm rfl rfl (evl_call (nm := 32) (cf rfl) (h_marks n.seen.length (q5 q n) _ rfl (by omega)) (rs_of rfl) rfl rfl rfl (xs rfl rfl (nl (et (sq (sq (rg (xm rfl rfl (xb ttOk rfl rfl (nl (et (ev_cond rfl (fun h5 => ?_) (fun h5 => ?_)))))))))))))))))))
         · have d5 := of_decide_eq_true h5
           refine sq (rg (xs rfl rfl (nl (et (ev_ret (evr_then (ret_pure' ttOk rfl rfl (congrArg iR (?_ : _ = _)))))))))
           first | omega | rfl
         · have d5 := of_decide_eq_false h5
           refine ev_skip (et (sq (rg (xf ttOk rfl rfl (xl ttOk rfl rfl (xm rfl rfl (evl_call (nm := 38) (cf rfl) (h_acks n.owe.length (q6 q n) _ rfl (by omega)) (rs_of rfl) rfl rfl rfl (xs rfl rfl (nl (et (sq (sq (rg (xm rfl rfl (xb ttOk rfl rfl (nl (et (ev_cond rfl (fun h6 => ?_) (fun h6 => ?_)))))))))))))))))))
           · have d6 := of_decide_eq_true h6
             refine sq (rg (xs rfl rfl (nl (et (ev_ret (evr_then (ret_pure' ttOk rfl rfl (congrArg iR (?_ : _ = _)))))))))
             first | omega | rfl
           · have d6 := of_decide_eq_false h6
             refine ev_skip (et (sq (rg (xm rfl rfl (xs rfl rfl (nl (et (ev_ret (ret_pure' ttOk rfl rfl (congrArg iR (?_ : _ = _)))))))))))
             first | omega | rfl

end Go.Proofs.YtphaggopgdbojaaGreat
