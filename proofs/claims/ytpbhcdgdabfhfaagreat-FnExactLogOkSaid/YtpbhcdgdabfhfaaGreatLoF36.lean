/- Walks of functions of the program, printed by a program of the prover. -/
import Derived.Test.YtpbhcdgdabfhfaaGreatLoF35
namespace Go.Proofs.YtpbhcdgdabfhfaaGreat
open Go.ChangeShapes Go.WideShapes Go.ChangeAt Go.RowKit
set_option linter.unusedVariables false
set_option linter.unusedSimpArgs false
set_option maxHeartbeats 1000000
set_option maxRecDepth 100000
attribute [local irreducible] EvL Ev EvE Quiet Eff Pure RDk RDb RDo
def noEntry : Entry := ⟨0, 0, 0, 0, 0, 0, 0, 0, 0⟩
def atB (b : Book) (x : Int) : Entry := b.entries.getD (x - b.base - 1).toNat noEntry
def timeAtF (b : Book) (x : Int) : Int := if x = b.base then b.time else (atB b x).time
def entAtF (b : Book) (x : Int) : Entry × Bool := if bookOk b && inB x (b.base + 1) (lastB b) then (atB b x, true) else (noEntry, false)
theorem atB_eq {b : Book} {x : Int} {m : Nat} (h : x - b.base - 1 = (m : Int)) (hm : m < b.entries.length) : atB b x = b.entries[m] := by
  unfold atB
  rw [h, Int.toNat_natCast, List.getD_eq_getElem?_getD, List.getElem?_eq_getElem hm]
  rfl
theorem at_get {b : Book} {x : Int} (h1 : b.base < x) (h2 : x ≤ lastB b) : ∃ m : Nat, x - b.base - 1 = (m : Int) ∧ m < b.entries.length := by
  unfold lastB at h2
  exact ⟨(x - b.base - 1).toNat, by omega, by omega⟩
theorem ent_no1 {b : Book} {x : Int} (h : bookOk b = false) : entAtF b x = (noEntry, false) := by simp [entAtF, h]
theorem ent_no2 {b : Book} {x : Int} (h : inB x (b.base + 1) (lastB b) = false) : entAtF b x = (noEntry, false) := by simp [entAtF, h]
theorem ent_yes {b : Book} {x : Int} {m : Nat} (h : bookOk b = true) (h2 : inB x (b.base + 1) (lastB b) = true) (h3 : x - b.base - 1 = (m : Int)) (hm : m < b.entries.length) : entAtF b x = (b.entries[m], true) := by simp [entAtF, h, h2, atB_eq h3 hm]
def nextF (n : LogN) (x : Int) : Head := ⟨n.head.num + 1, x, timeAtF n.book x, (seenOverF n.head.seen (partF n.book (n.book.base + 1) x)).1⟩
def owesF (n : LogN) : Bool := eqN Ack.nums n.owe ((partF n.book (n.durable + 1) 2000).map ackF)
theorem owes_len {n : LogN} (h : ((partF n.book (n.durable + 1) 2000).length : Int) ≠ n.owe.length) : owesF n = false := eqN_len (by rw [List.length_map]; omega)
theorem owes_at {n : LogN} {k : Nat} {L : List Entry} (hL : L = partF n.book (n.durable + 1) 2000) (h1 : k < n.owe.length) (h2 : k < L.length) (h : n.owe[k].nums ≠ (ackF L[k]).nums) : owesF n = false := by
  subst hL
  exact eqN_at (k := k) h1 (by simpa using h2) (by simpa using h)
theorem owes_all {n : LogN} {k : Nat} {L : List Entry} (hL : L = partF n.book (n.durable + 1) 2000) (hk : ¬ k < L.length) (hl : L.length = n.owe.length) (hp : (n.owe.take k).map Ack.nums = ((L.map ackF).take k).map Ack.nums) : owesF n = true := by
  subst hL
  exact takeN_all (k := k) (by omega) (by simpa using hl.symm) hp
theorem owes_next {n : LogN} {k : Nat} {L : List Entry} (h1 : k < n.owe.length) (h2 : k < L.length) (hp : (n.owe.take k).map Ack.nums = ((L.map ackF).take k).map Ack.nums) (h : n.owe[k].nums = (ackF L[k]).nums) : (n.owe.take (k + 1)).map Ack.nums = ((L.map ackF).take (k + 1)).map Ack.nums := takeN h1 (by simpa using h2) hp (by simpa using h)
theorem c_l12Part (b : Book) (x y : Int) (hb : b.entries.length ≤ 1048576) : Pure Tryz.prog 108 [many (bookC b), one (iC x), one (iC y)] [one' (entriesR (partF b x y))] := by
 refine pure_intro (N := 35) Tryz.func108 rfl rfl rfl rfl (fun H w => ?_)
 refine sq (rg (evl_e (e_box rfl rfl rfl rfl) (xs rfl rfl (nl (et (sq (rg (evl_e (e_lit ttOk rfl rfl rfl) (xs rfl rfl (nl (et (sq (sq (rg (xs rfl rfl (nl (et (ev_blk (ev_loop (fun k : Nat => (⟨[(8, iV k), (3, .p false [.pb 3 0]), (1, iV x), (2, iV y), (7, .p false [.rt 101])], [(3, 33, [.c (iC b.base), .c (iC b.time), .c (entries b.entries)])], [(101, 121, 9, (((b.entries.take k).filter (fun e : Entry => inB e.index x y)).map entryC))], []⟩ : St)) (fun k => k ≤ b.entries.length) (fun k => b.entries.length - k) 0 [(101, 9)] (by simp) ⟨by (repeat first | exact trivial | refine ⟨rfl, ?_⟩), by (repeat first | exact trivial | refine ⟨rfl, ?_⟩), ⟨⟨_, rfl, by rfl⟩, trivial⟩, by (repeat first | exact trivial | refine ⟨⟨_, rfl, rfl⟩, ?_⟩), rfl⟩ ?_)))))))))))))))))))
 intro k hp
 have p0 := hp
 show Ev _ _ _ _ (⟨[(8, iV k), (3, .p false [.pb 3 0]), (1, iV x), (2, iV y), (7, .p false [.rt 101])], [(3, 33, [.c (iC b.base), .c (iC b.time), .c (entries b.entries)])], [(101, 121, 9, (((b.entries.take k).filter (fun e : Entry => inB e.index x y)).map entryC))], []⟩ : St)
 refine sq (sq (rg (xm rfl rfl (xf ttOk rfl rfl (xl ttOk rfl rfl (xo (q_len_map ttOk rfl rfl) rfl (xb ttOk rfl rfl (nl (et (ev_cond rfl (fun h1 => ?_) (fun h1 => ?_)))))))))))
 · have d1 := of_decide_eq_true h1
   refine ev_skip (et (sq (ev_blk (sq (rg (xf ttOk rfl rfl (xl ttOk rfl rfl (xm rfl rfl (xo (q_ix_map ttOk rfl rfl rfl rfl (by omega)) rfl (xf ttOk rfl rfl (xl ttOk rfl rfl (xm rfl rfl (xm rfl rfl (evl_call (nm := 25) (cf rfl) (c_l1In _ _ _) (rs_of rfl) rfl rfl rfl (nl (et (ev_cond rfl (fun h2 => ?_) (fun h2 => ?_))))))))))))))))))
   · have hfl := filter_len (p := (fun e : Entry => inB e.index x y)) (l := b.entries) (k := k)
     refine rg (xm rfl rfl (xf ttOk rfl rfl (xl ttOk rfl rfl (xm rfl rfl (xo (q_ix_map ttOk rfl rfl rfl rfl (by omega)) rfl (xl ttOk rfl rfl (evl_e (e_lit ttOk rfl rfl rfl) (evl_e (e_app ttOk rfl rfl rfl rfl rfl rfl rfl (by simp; omega) rfl rfl) (xs rfl rfl (nl (eb (et (rg (xm rfl rfl (xa rfl rfl rfl (by omega) rfl (xs rfl rfl (nl (eve_round (k + 1) [(101, 33)] ?hp ⟨by (repeat first | exact trivial | refine ⟨rfl, ?_⟩), by (repeat first | exact trivial | refine ⟨rfl, ?_⟩), ⟨⟨_, rfl, by rw [filter_yes (p := (fun e : Entry => inB e.index x y)) (by omega) (by assumption)]; simp⟩, trivial⟩, by (repeat first | exact trivial | refine ⟨⟨_, rfl, rfl⟩, ?_⟩), rfl⟩))))))))))))))))))
     case hp => exact ⟨by omega, by omega⟩
   · refine ev_skip (eb (et (rg (xm rfl rfl (xa rfl rfl rfl (by omega) rfl (xs rfl rfl (nl (eve_round (k + 1) [(101, 101)] ?hp ⟨by (repeat first | exact trivial | refine ⟨rfl, ?_⟩), by (repeat first | exact trivial | refine ⟨rfl, ?_⟩), ⟨⟨_, rfl, by rw [filter_not (p := (fun e : Entry => inB e.index x y)) (by omega) (by assumption)]⟩, trivial⟩, by (repeat first | exact trivial | refine ⟨⟨_, rfl, rfl⟩, ?_⟩), rfl⟩))))))))
     case hp => exact ⟨by omega, by omega⟩
 · have d1 := of_decide_eq_false h1
   refine ev_exit (evx_then (evx_then (evx_hit (et (sq (rg (xm rfl rfl (xs rfl rfl (nl (et (ev_ret (ret_pure' ttOk rfl rfl ?_))))))))))))
   rw [show partF b x y = (b.entries.take k).filter (fun e : Entry => inB e.index x y) from (filter_full (by omega)).symm]
theorem c_l8TimeAt (b : Book) (x : Int) (hb : bookOk b = true) (hx : b.base ≤ x ∧ x ≤ lastB b) : Pure Tryz.prog 148 [many (bookC b), one (iC x)] (iR (timeAtF b x)) := by
 refine pure_intro (N := 21) Tryz.func148 rfl rfl rfl rfl (fun H w => ?_)
 have hbd := book_bd hb
 have hx2 : x ≤ 4000 := by have := hx.2; unfold lastB at this; omega
 refine sq (rg (evl_e (e_box rfl rfl rfl rfl) (xs rfl rfl (nl (et (sq (sq (rg (xm rfl rfl (xf ttOk rfl rfl (xl ttOk rfl rfl (xb ttOk rfl rfl (nl (et (ev_cond rfl (fun h1 => ?_) (fun h1 => ?_))))))))))))))))
 · try have d1 := of_decide_eq_true h1
   refine sq (rg (xf ttOk rfl rfl (xl ttOk rfl rfl (xs rfl rfl (nl (et (ev_ret (evr_then (ret_pure' ttOk rfl rfl ?_)))))))))
   rw [show timeAtF b x = b.time by simp only [timeAtF]; rw [if_pos (by assumption)]]
 · try have d1 := of_decide_eq_false h1
   refine ev_skip (et (sq ?_))
   obtain ⟨m, hm1, hm2⟩ := at_get (b := b) (x := x) (by omega) hx.2
   refine rg (xf ttOk rfl rfl (xl ttOk rfl rfl (xm rfl rfl (xf ttOk rfl rfl (xl ttOk rfl rfl (xa rfl rfl rfl (by omega) rfl (xa rfl rfl rfl (by omega) rfl (xo (q_ix_map (m := m) ttOk rfl rfl rfl (by omega) (by omega)) rfl (xf ttOk rfl rfl (xl ttOk rfl rfl (xs rfl rfl (nl (et (ev_ret (ret_pure' ttOk rfl rfl ?_)))))))))))))))
   rw [show timeAtF b x = b.entries[m].time by simp only [timeAtF]; rw [if_neg (by assumption), atB_eq hm1 hm2]]
theorem c_EntryAt (b : Book) (x : Int) : Pure Tryz.prog 135 [many (bookC b), one (iC x)] [many' [.v (.int .i64 ((entAtF b x).1).index), .v (.int .i64 ((entAtF b x).1).time), .v (.int .i64 ((entAtF b x).1).client), .v (.int .i64 ((entAtF b x).1).seq), .v (.int .i64 ((entAtF b x).1).kind), .v (.int .i64 ((entAtF b x).1).a), .v (.int .i64 ((entAtF b x).1).b), .v (.int .i64 ((entAtF b x).1).c), .v (.int .i64 ((entAtF b x).1).d)], one' (RC.v (.bool (entAtF b x).2))] := by
 refine pure_intro (N := 29) Tryz.func135 rfl rfl rfl rfl (fun H w => ?_)
 refine sq (rg (evl_e (e_box rfl rfl rfl rfl) (evl_e (e_alloc ttOk rfl rfl rfl rfl) (xs rfl rfl (nl (et (sq (sq (ev_drawq [] mo (rdk_take 0 rfl (by kernel_rfl) trivial (q_load ttOk rfl) rfl (rdk_one 1 (by kernel_rfl) (rdo_call (nm := 7) rfl trivial (cf rfl) (c_BookOk' b) (rs_of rfl) rfl rfl rfl (rdk_take 2 rfl (by kernel_rfl) trivial (q_not rfl) rfl (rdk_take 3 rfl (by kernel_rfl) trivial (q_move rfl) rfl (rdk_partn (t := 9) rfl (fun h1 => ?_) (fun h1 => ?_))))))))))))))))
 · try have hbd := book_bd h1
   refine rdk_skip 4 rfl (by kernel_rfl) ⟨_, rfl, .inl ⟨_, rfl, (nt h1)⟩⟩ rfl (rdk_skip 5 rfl (by kernel_rfl) ⟨_, rfl, .inl ⟨_, rfl, (nt h1)⟩⟩ rfl (rdk_skip 6 rfl (by kernel_rfl) ⟨_, rfl, .inl ⟨_, rfl, (nt h1)⟩⟩ rfl (rdk_skip 7 rfl (by kernel_rfl) ⟨_, rfl, .inl ⟨_, rfl, (nt h1)⟩⟩ rfl (rdk_skip 8 rfl (by kernel_rfl) ⟨_, rfl, .inl ⟨_, rfl, (nt h1)⟩⟩ rfl (rdk_skip 9 rfl (by kernel_rfl) ⟨_, rfl, .inl ⟨_, rfl, (nt h1)⟩⟩ rfl (rdk_skip 10 rfl (by kernel_rfl) ⟨_, rfl, .inl ⟨_, rfl, (nt h1)⟩⟩ rfl (rdk_skip 11 rfl (by kernel_rfl) ⟨_, rfl, .inl ⟨_, rfl, (nt h1)⟩⟩ rfl (rdk_take 12 rfl (by kernel_rfl) trivial (q_pick_t rfl (nt h1) rfl) rfl (rdk_endq (by kernel_rfl) (et (ev_cond_kt rfl rfl (sq (rg (xo (q_build ttOk rfl) rfl (xst ttOk rfl rfl (xs rfl rfl (nl (et (ev_ret (evr_then (ret_pure' ttOk rfl rfl ?_)))))))))))))))))))))
   first
   | (rw [ent_no1 (by assumption)] <;> rfl)
   | (rw [ent_no2 (by assumption)] <;> rfl)
   | (rw [ent_yes (by assumption) (by assumption) hm1 hm2] <;> rfl)
 · try have hbd := book_bd h1
   refine rdk_take 4 rfl (by kernel_rfl) ⟨_, _, rfl, rfl, (nf h1)⟩ (q_move rfl) rfl (rdk_take 5 rfl (by kernel_rfl) ⟨_, _, rfl, rfl, (nf h1)⟩ (q_fieldAddr ttOk rfl) rfl (rdk_take 6 rfl (by kernel_rfl) ⟨_, _, rfl, rfl, (nf h1)⟩ (q_load ttOk rfl) rfl (rdk_take 7 rfl (by kernel_rfl) ⟨_, _, rfl, rfl, (nf h1)⟩ (q_ar rfl rfl rfl (by omega)) rfl (rdk_take 8 rfl (by kernel_rfl) ⟨_, _, rfl, rfl, (nf h1)⟩ (q_load ttOk rfl) rfl (rdk_one 9 (by kernel_rfl) (rdo_call (nm := 15) rfl ⟨_, _, rfl, rfl, (nf h1)⟩ (cf rfl) (c_lastOf b (by assumption)) (rs_of rfl) rfl rfl rfl (rdk_one 10 (by kernel_rfl) (rdo_call (nm := 16) rfl ⟨_, _, rfl, rfl, (nf h1)⟩ (cf rfl) (c_between _ _ _) (rs_of rfl) rfl rfl rfl (rdk_take 11 rfl (by kernel_rfl) ⟨_, _, rfl, rfl, (nf h1)⟩ (q_not rfl) rfl (rdk_take 12 rfl (by kernel_rfl) trivial (q_pick_f rfl (nf h1) rfl) rfl (rdk_endq (by kernel_rfl) (et (ev_cond_n rfl (fun h2 => ?_) (fun h2 => ?_))))))))))))))
   · refine sq (rg (xo (q_build ttOk rfl) rfl (xst ttOk rfl rfl (xs rfl rfl (nl (et (ev_ret (evr_then (ret_pure' ttOk rfl rfl ?_)))))))))
     first
     | (rw [ent_no1 (by assumption)] <;> rfl)
     | (rw [ent_no2 (by assumption)] <;> rfl)
     | (rw [ent_yes (by assumption) (by assumption) hm1 hm2] <;> rfl)
   · refine ev_skip (et (sq ?_))
     have hrg := inB_iff.1 (show inB x (b.base + 1) (lastB b) = true by assumption)
     obtain ⟨m, hm1, hm2⟩ := at_get (b := b) (x := x) (by omega) hrg.2
     have hla : lastB b ≤ 4000 := by unfold lastB; omega
     refine rg (xf ttOk rfl rfl (xl ttOk rfl rfl (xm rfl rfl (xf ttOk rfl rfl (xl ttOk rfl rfl (xa rfl rfl rfl (by omega) rfl (xa rfl rfl rfl (by omega) rfl (xo (q_ix_map (m := m) ttOk rfl rfl rfl (by omega) (by omega)) rfl (xl ttOk rfl rfl (xst ttOk rfl rfl (xs rfl rfl (nl (et (ev_ret (ret_pure' ttOk rfl rfl ?_)))))))))))))))
     first
     | (rw [ent_no1 (by assumption)] <;> rfl)
     | (rw [ent_no2 (by assumption)] <;> rfl)
     | (rw [ent_yes (by assumption) (by assumption) hm1 hm2] <;> rfl)
theorem c_seenUpTo (h : Head) (b : Book) (x : Int) (hb : bookOk b = true) (hx : b.base ≤ x ∧ x ≤ lastB b) : Pure Tryz.prog 136 [many (headC h), many (bookC b), one (iC x)] [one' (marksR (seenOverF h.seen (b.entries.take (x - b.base).toNat)).1), one' (RC.v (.bool (seenOverF h.seen (b.entries.take (x - b.base).toNat)).2))] := by
 refine pure_intro (N := 20) Tryz.func136 rfl rfl rfl rfl (fun H w => ?_)
 have hbd := book_bd hb
 have hx2 : x ≤ b.base + b.entries.length := hx.2
 refine sq (rg (evl_e (e_box rfl rfl rfl rfl) (evl_e (e_box rfl rfl rfl rfl) (xs rfl rfl (xs rfl rfl (nl (et (sq (ev_drawq [] mo (rdk_take 0 rfl (by kernel_rfl) trivial (q_fieldAddr ttOk rfl) rfl (rdk_take 1 rfl (by kernel_rfl) trivial (q_load ttOk rfl) rfl (rdk_take 2 rfl (by kernel_rfl) trivial (q_fieldAddr ttOk rfl) rfl (rdk_take 3 rfl (by kernel_rfl) trivial (q_load ttOk rfl) rfl (rdk_take 4 rfl (by kernel_rfl) trivial (q_move rfl) rfl (rdk_take 5 rfl (by kernel_rfl) trivial (q_fieldAddr ttOk rfl) rfl (rdk_take 6 rfl (by kernel_rfl) trivial (q_load ttOk rfl) rfl (rdk_take 7 rfl (by kernel_rfl) trivial (q_ar rfl rfl rfl (by omega)) rfl (rdk_take 8 rfl (by kernel_rfl) trivial (q_sl_to_map (k := (x - b.base).toNat) ttOk rfl rfl rfl (by omega) (by omega)) rfl (rdk_one 9 (by kernel_rfl) (rdo_call (nm := 17) rfl trivial (cf rfl) (c_SeenOver' h.seen (b.entries.take (x - b.base).toNat)) (rs_of rfl) rfl rfl rfl (rdk_take 10 rfl (by kernel_rfl) trivial (q_ext rfl) rfl (rdk_take 11 rfl (by kernel_rfl) trivial (q_ext rfl) rfl (rdk_take 12 rfl (by kernel_rfl) trivial (q_assign rfl) rfl (rdk_take 13 rfl (by kernel_rfl) trivial (q_assign rfl) rfl (rdk_endq (by kernel_rfl) (et (ev_ret (ret_pure' ttOk rfl rfl ?_))))))))))))))))))))))))))))
 rfl
theorem c_l12Owes (n : LogN) (hb : n.book.entries.length ≤ 1048576) (hd : 0 ≤ n.durable ∧ n.durable ≤ 1000000) : Pure Tryz.prog 78 [many (logC n)] (bR (owesF n)) := by
 refine pure_intro (N := 34) Tryz.func78 rfl rfl rfl rfl (fun H w => ?_)
 obtain ⟨L, hL⟩ : ∃ L, L = partF n.book (n.durable + 1) 2000 := ⟨_, rfl⟩
 have hc := c_l12Part n.book (n.durable + 1) 2000 hb
 rw [← hL] at hc
 refine ev_lena (t := 0) 18 rfl rfl (fun hO => ?_)
 have hLl : L.length ≤ n.book.entries.length := by rw [hL]; exact List.length_filter_le _ _
 refine sq (rg (evl_e (e_box rfl rfl rfl rfl) (xs rfl rfl (nl (et (sq (rg (xf ttOk rfl rfl (xl ttOk rfl rfl (xf ttOk rfl rfl (xl ttOk rfl rfl (xa rfl rfl rfl (by omega) rfl (evl_call (nm := 10) (cf rfl) hc (rs_of rfl) rfl rfl rfl (xs rfl rfl (nl (et (sq (sq (rg (xm rfl rfl (xo (q_len_rtm ttOk rfl rfl rfl) rfl (xf ttOk rfl rfl (xl ttOk rfl rfl (xo (q_len_map ttOk rfl rfl) rfl (xb ttOk rfl rfl (nl (et (ev_cond rfl (fun h1 => ?_) (fun h1 => ?_)))))))))))))))))))))))))))))
 · have d1 := of_decide_eq_true h1
   refine sq (rg (xs rfl rfl (nl (et (ev_ret (evr_then (ret_pure' ttOk rfl rfl (congrArg bR (?_ : _ = _)))))))))
   rw [owes_len (by rw [← hL]; exact d1)]
 · have d1 := of_decide_eq_false h1
   have hlen : L.length = n.owe.length := by omega
   refine ev_skip (et (sq (sq (rg (xs rfl rfl (nl (et (ev_blk (ev_loop (fun k : Nat => (⟨[(4, iV k), (1, .p false [.pb 1 0]), (3, .p false [.rt 101])], [(1, 36, [.c (rows n.two.a.kept), .c (writes n.two.a.wait), .c (rows n.two.b.kept), .c (writes n.two.b.wait), .c (iC n.head.num), .c (iC n.head.base), .c (iC n.head.time), .c (marks n.head.seen), .c (iC n.next.num), .c (iC n.next.base), .c (iC n.next.time), .c (marks n.next.seen), .c (bC n.more), .c (iC n.book.base), .c (iC n.book.time), .c (entries n.book.entries), .c (marks n.seen), .c (iC n.durable), .c (acks n.owe)])], [(101, 121, 9, (L.map entryC))], []⟩ : St)) (fun k => k ≤ n.owe.length ∧ (n.owe.take k).map Ack.nums = ((L.map ackF).take k).map Ack.nums) (fun k => n.owe.length - k) 0 [(101, 10)] (⟨by simp, by simp⟩) ⟨by (repeat first | exact trivial | refine ⟨rfl, ?_⟩), by (repeat first | exact trivial | refine ⟨rfl, ?_⟩), ⟨⟨_, rfl, by rfl⟩, trivial⟩, by (repeat first | exact trivial | refine ⟨⟨_, rfl, rfl⟩, ?_⟩), rfl⟩ ?_)))))))))
   intro k hp
   obtain ⟨p0, p1⟩ := hp
   show Ev _ _ _ _ (⟨[(4, iV k), (1, .p false [.pb 1 0]), (3, .p false [.rt 101])], [(1, 36, [.c (rows n.two.a.kept), .c (writes n.two.a.wait), .c (rows n.two.b.kept), .c (writes n.two.b.wait), .c (iC n.head.num), .c (iC n.head.base), .c (iC n.head.time), .c (marks n.head.seen), .c (iC n.next.num), .c (iC n.next.base), .c (iC n.next.time), .c (marks n.next.seen), .c (bC n.more), .c (iC n.book.base), .c (iC n.book.time), .c (entries n.book.entries), .c (marks n.seen), .c (iC n.durable), .c (acks n.owe)])], [(101, 121, 9, (L.map entryC))], []⟩ : St)
   refine sq (sq (rg (xm rfl rfl (xm rfl rfl (xo (q_len_rtm ttOk rfl rfl rfl) rfl (xb ttOk rfl rfl (nl (et (ev_cond rfl (fun h2 => ?_) (fun h2 => ?_))))))))))
   · have d2 := of_decide_eq_true h2
     refine ev_skip (et (sq (ev_blk (sq (ev_drawq [] mo (rdk_take 0 rfl (by kernel_rfl) trivial (q_fieldAddr ttOk rfl) rfl (rdk_take 1 rfl (by kernel_rfl) trivial (q_load ttOk rfl) rfl (rdk_take 2 rfl (by kernel_rfl) trivial (q_move rfl) rfl (rdk_take 3 rfl (by kernel_rfl) trivial (q_ix_map ttOk rfl rfl rfl rfl (by omega)) rfl (rdk_take 4 rfl (by kernel_rfl) trivial (q_load ttOk rfl) rfl (rdk_take 5 rfl (by kernel_rfl) trivial (q_move rfl) rfl (rdk_take 6 rfl (by kernel_rfl) trivial (q_move rfl) rfl (rdk_take 7 rfl (by kernel_rfl) trivial (q_ix_rt (m := k) ttOk rfl rfl rfl rfl rfl rfl (by simp; omega)) rfl (rdk_take 8 rfl (by kernel_rfl) trivial (q_load_pr ttOk rfl rfl rfl rfl (get_map (by omega)) rfl rfl) rfl (rdk_one 9 (by kernel_rfl) (rdo_call (nm := 32) rfl trivial (cf rfl) (c_AckOf L[k]) (rs_of rfl) rfl rfl rfl ?_))))))))))))))))
     first | refine rdk_take 10 rfl (by kernel_rfl) trivial (q_eqS (n := 4) (by kernel_rfl) rfl rfl rfl rfl rfl rfl rfl) rfl ?_ | refine rdk_take 10 rfl (by kernel_rfl) trivial (q_bin ttOk rfl) rfl ?_
     refine rdk_endq (by kernel_rfl) (et (ev_cond rfl (fun h3 => ?_) (fun h3 => ?_)))
     · have d3 := of_decide_eq_true h3
       refine sq (rg (xs rfl rfl (nl (et (ev_ret (evr_blk (evr_then (evr_then (evr_blk (evr_then (ret_pure' ttOk rfl rfl (congrArg bR (?_ : _ = _)))))))))))))
       rw [owes_at (k := k) hL (by omega) (by omega) d3]
     · have d3 := of_decide_eq_false h3
       refine ev_skip (eb (et (rg (xm rfl rfl (xa rfl rfl rfl (by omega) rfl (xs rfl rfl (nl (eve_round (k + 1) [] ?hp ⟨by (repeat first | exact trivial | refine ⟨rfl, ?_⟩), by (repeat first | exact trivial | refine ⟨rfl, ?_⟩), ⟨⟨_, rfl, by rfl⟩, trivial⟩, by (repeat first | exact trivial | refine ⟨⟨_, rfl, rfl⟩, ?_⟩), rfl⟩))))))))
       case hp => exact ⟨⟨by omega, owes_next (by omega) (by omega) p1 (Decidable.not_not.1 d3)⟩, by omega⟩
   · have d2 := of_decide_eq_false h2
     refine ev_exit (evx_then (evx_then (evx_hit (et (sq (rg (xs rfl rfl (nl (et (ev_ret (ret_pure' ttOk rfl rfl (congrArg bR (?_ : _ = _)))))))))))))
     rw [owes_all hL (by omega) hlen p1]

end Go.Proofs.YtpbhcdgdabfhfaaGreat
