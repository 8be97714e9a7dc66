/- Walks of functions of the program, printed by a program of the prover. -/
import Derived.Test.YtinmcdcmidlgpaaGreatDoorAkF36
import Derived.Test.YtinmcdcmidlgpaaGreatDoorAkVF
import Derived.Test.YtinmcdcmidlgpaaGreatDoorAkVY
import Derived.Test.YtinmcdcmidlgpaaGreatDoorAkVZ
namespace Go.Proofs.YtinmcdcmidlgpaaGreatDoor
open Go.ChangeShapes Go.WideShapes Go.ChangeAt Go.RowKit
set_option linter.unusedVariables false
set_option linter.unusedSimpArgs false
set_option maxHeartbeats 1000000
set_option maxRecDepth 100000
attribute [local irreducible] EvL Ev EvE Quiet Eff Pure RDk RDb RDo
def frontF (n : LogN) : Bool := keptOk n.two && (headOk n.head && (bookOk n.book && (decide (n.book.base = n.head.base) && decide (n.book.time = n.head.time))))
def midF (n : LogN) : Bool := (seenOverF n.head.seen n.book.entries).2 && (eqN Mark.nums (seenOverF n.head.seen n.book.entries).1 n.seen && inB n.durable n.book.base (lastB n.book))
def logOkF (n : LogN) : Bool := frontF n && (midF n && (owesF n && (if n.more then inB n.next.base (n.head.base + 1) n.durable && eqHd n.next (nextF n n.next.base) else eqHd n.next noHead)))
def nextOkF (n : LogN) : Bool := if n.more then headOk n.next && (decide (n.next.num = n.head.num + 1) && (decide (n.head.base < n.next.base) && (decide (n.next.base ≤ n.durable) && (decide (n.next.time = (entAtF n.book n.next.base).1.time) && eqN Mark.nums n.next.seen (seenOverF n.head.seen (n.book.entries.take (n.next.base - n.book.base).toNat)).1)))) else eqHd n.next noHead
def logOkI (n : LogN) : Bool := frontF n && (midF n && (nextOkF n && eqN Ack.nums n.owe ((fromF n.book (n.durable + 1)).map ackF)))
theorem head_bd {h : Head} (hh : headOk h = true) : 0 ≤ h.base ∧ h.base ≤ 2000 ∧ 0 ≤ h.num ∧ h.num ≤ h.base ∧ seenOk h.seen = true := by
 simp only [headOk, inB, Bool.and_eq_true, decide_eq_true_eq] at hh
 exact ⟨hh.1.1, hh.1.2, hh.2.1.1, hh.2.1.2, hh.2.2.2.2.1⟩
theorem dur_bd {n : LogN} (hb : bookOk n.book = true) (h : inB n.durable n.book.base (lastB n.book) = true) : 0 ≤ n.durable ∧ n.durable ≤ 1000000 := by
 have h1 := book_bd hb
 have h2 := inB_iff.1 h
 unfold lastB at h2
 omega
theorem book_len {b : Book} (hb : bookOk b = true) : b.entries.length ≤ 1048576 := by have := book_bd hb; omega
theorem nb_bd {n : LogN} (hd : inB n.durable n.book.base (lastB n.book) = true) (e : n.book.base = n.head.base) (h : inB n.next.base (n.head.base + 1) n.durable = true) : n.book.base ≤ n.next.base ∧ n.next.base ≤ lastB n.book := by
 have h1 := inB_iff.1 hd
 have h2 := inB_iff.1 h
 omega
theorem c_owed2 (b : Book) (x : Int) (hx : 0 ≤ x ∧ x ≤ 1000000) (hb : b.entries.length ≤ 1048576) : Pure Tryz.prog 118 [many (bookC b), one (iC x)] [one' (acksR ((fromF b (x + 1)).map ackF))] := by
 have h := c_owed b x hx hb
 rw [show (fun e => ackC (ackF e)) = ackC ∘ ackF from rfl, ← List.map_map] at h
 exact h
theorem c_l12Next (n : LogN) (x : Int) (hb : bookOk n.book = true) (hx : n.book.base ≤ x ∧ x ≤ lastB n.book) (hh : 0 ≤ n.head.num ∧ n.head.num ≤ 2000) : Pure Tryz.prog 103 [many (logC n), one (iC x)] [many' (headR (nextF n x))] := by
 refine pure_intro (N := 33) Tryz.func103 rfl rfl rfl rfl (fun H w => ?_)
 have hbd := book_bd hb
 refine sq (rg (evl_e (e_box rfl rfl rfl rfl) (evl_e (e_alloc ttOk rfl rfl rfl rfl) (nl (et (sq ?_))))))
 refine' ev_draw [11] mo ?hdr1 ?kdr1
 case hdr1 =>
  refine rk0 0 rfl (q_fieldAddr ttOk rfl) rfl (rk0 1 rfl (q_fieldAddr ttOk rfl) rfl (rk0 2 rfl (q_load ttOk rfl) rfl (rk0 3 rfl (q_ar rfl rfl rfl om) rfl (rk0 4 rfl (q_move rfl) rfl (rk0 5 rfl (q_fieldAddr ttOk rfl) rfl (rk0 6 rfl (q_load ttOk rfl) rfl (rk0 7 rfl (q_move rfl) rfl (rdk_two 8 10 kr ?_ ?_))))))))
  ·refine rdo_call (nm := 14) rfl trivial (cf rfl) (c_l8TimeAt n.book x hb hx) (rs_of rfl) rfl rfl rfl (rk0 9 rfl (q_build ttOk rfl) rfl (rdk_one 10 kr (rdo_new rfl trivial (e_alloc ttOk rfl rfl rfl rfl) (rdk_one 11 kr (rdo_brk rfl rfl trivial (e_store ttOk rfl) ?_)))))
   exact rdb_fin kr
  ·refine rdo_new rfl trivial (e_alloc ttOk rfl rfl rfl rfl) (rdk_one 8 kr (rdo_call (nm := 14) rfl trivial (cf rfl) (c_l8TimeAt n.book x hb hx) (rs_of rfl) rfl rfl rfl (rk0 9 rfl (q_build ttOk rfl) rfl (rdk_one 11 kr (rdo_brk rfl rfl trivial (e_store ttOk rfl) ?_)))))
   exact rdb_le [] kr lei
 refine et (sq (ev_drawq [16] mo (rk0 0 rfl (q_fieldAddr ttOk rfl) rfl (rk0 1 rfl (q_fieldAddr ttOk rfl) rfl (rk0 2 rfl (q_load ttOk rfl) rfl (rk0 3 rfl (q_fieldAddr ttOk rfl) rfl (rk0 4 rfl (q_load ttOk rfl) rfl (rk0 5 rfl (q_fieldAddr ttOk rfl) rfl (rk0 6 rfl (q_fieldAddr ttOk rfl) rfl (rk0 7 rfl (q_load ttOk rfl) rfl (rk0 8 rfl (q_ar rfl rfl rfl om) rfl (rk0 9 rfl (q_move rfl) rfl (rdk_one 10 kr (rdo_call (nm := 27) rfl trivial (cf rfl) (c_l12Part n.book (n.book.base + 1) x (book_len hb)) (rs_of rfl) rfl rfl rfl (rdk_one 11 kr (rdo_call (nm := 28) rfl trivial (cf rfl) (c_SeenOver n.head.seen (partF n.book (n.book.base + 1) x)) (rs_of rfl) rfl rfl rfl (rk0 12 rfl (q_move rfl) rfl (rk0 13 rfl (q_ext rfl) rfl (rdk_pure 14 rfl kr trivial (qw_ext rfl) rfl (rk0 15 rfl (q_fieldAddr ttOk rfl) rfl (rdk_one 16 kr (rdo_brk rfl rfl trivial (e_store ttOk rfl) (rdb_endq kr (et (sq (rg (xl ttOk rfl rfl (xst ttOk rfl rfl (nl (et (ev_ret (ret_pure' ttOk rfl rfl ?_))))))))))))))))))))))))))))))))
 rfl
theorem c_LogOk (n : LogN) : Pure Tryz.prog 32 [many (logC n)] (bR (logOkF n)) := by
 refine pure_intro (N := 102) Tryz.func32 rfl rfl rfl rfl (fun H w => ?_)
 refine sq (rg (evl_e (e_box rfl rfl rfl rfl) (xs rfl rfl (nl (et (sq (sq (rg (xf ttOk rfl rfl (xl ttOk rfl rfl (evl_call (nm := 7) (cf rfl) (c_KeptOk n.two) (rs_of rfl) rfl rfl rfl (xo (q_not rfl) rfl (xm rfl rfl (evl_partn rfl rfl (fun h1 => ?_) (fun h1 => ?_)))))))))))))))
 ·try have d1 := of_decide_eq_false h1
  refine gn (nt h1) rfl rfl rfl (gn (nt h1) rfl rfl rfl (gn (nt h1) rfl rfl rfl (gn (nt h1) rfl rfl rfl (xo (q_pick_t rfl (nt h1) rfl) rfl (xm rfl rfl (gn rfl rfl rfl rfl (gn rfl rfl rfl rfl (gn rfl rfl rfl rfl (gn rfl rfl rfl rfl (xo (q_pick_t rfl rfl rfl) rfl (xm rfl rfl (gn rfl rfl rfl rfl (gn rfl rfl rfl rfl (gn rfl rfl rfl rfl (gn rfl rfl rfl rfl (gn rfl rfl rfl rfl (gn rfl rfl rfl rfl (gn rfl rfl rfl rfl (xo (q_pick_t rfl rfl rfl) rfl (xm rfl rfl (gn rfl rfl rfl rfl (gn rfl rfl rfl rfl (gn rfl rfl rfl rfl (gn rfl rfl rfl rfl (gn rfl rfl rfl rfl (gn rfl rfl rfl rfl (gn rfl rfl rfl rfl (xo (q_pick_t rfl rfl rfl) rfl (nl (et (ev_cond_kt rfl rfl (sq (rg (xs rfl rfl (nl (et (ev_ret (evr_then (ret_pure' ttOk rfl rfl (congrArg bR (?_ : _ = _)))))))))))))))))))))))))))))))))))))))))
  simp_all [logOkF, frontF, midF]
 ·try have d1 := of_decide_eq_true h1
  refine go (nf h1) rfl rfl (q_fieldAddr ttOk rfl) rfl (go (nf h1) rfl rfl (q_load ttOk rfl) rfl (evl_callg rfl rfl (nf h1) (nm := 12) (cf rfl) (c_HeadOk n.head) (rs_of rfl) rfl rfl rfl (go (nf h1) rfl rfl (q_not rfl) rfl (xo (q_pick_f rfl (nf h1) rfl) rfl (xm rfl rfl (evl_partn rfl rfl (fun h2 => ?_) (fun h2 => ?_)))))))
  ·try have d2 := of_decide_eq_false h2
   try have hhd := head_bd h2
   refine gn (nt h2) rfl rfl rfl (gn (nt h2) rfl rfl rfl (gn (nt h2) rfl rfl rfl (gn (nt h2) rfl rfl rfl (xo (q_pick_t rfl (nt h2) rfl) rfl (xm rfl rfl (gn rfl rfl rfl rfl (gn rfl rfl rfl rfl (gn rfl rfl rfl rfl (gn rfl rfl rfl rfl (gn rfl rfl rfl rfl (gn rfl rfl rfl rfl (gn rfl rfl rfl rfl (xo (q_pick_t rfl rfl rfl) rfl (xm rfl rfl (gn rfl rfl rfl rfl (gn rfl rfl rfl rfl (gn rfl rfl rfl rfl (gn rfl rfl rfl rfl (gn rfl rfl rfl rfl (gn rfl rfl rfl rfl (gn rfl rfl rfl rfl (xo (q_pick_t rfl rfl rfl) rfl (nl (et (ev_cond_kt rfl rfl (sq (rg (xs rfl rfl (nl (et (ev_ret (evr_then (ret_pure' ttOk rfl rfl (congrArg bR (?_ : _ = _)))))))))))))))))))))))))))))))))))
   simp_all [logOkF, frontF, midF]
  ·try have d2 := of_decide_eq_true h2
   try have hhd := head_bd h2
   refine go (nf h2) rfl rfl (q_fieldAddr ttOk rfl) rfl (go (nf h2) rfl rfl (q_load ttOk rfl) rfl (evl_callg rfl rfl (nf h2) (nm := 18) (cf rfl) (c_BookOk n.book) (rs_of rfl) rfl rfl rfl (go (nf h2) rfl rfl (q_not rfl) rfl (xo (q_pick_f rfl (nf h2) rfl) rfl (xm rfl rfl (evl_partn rfl rfl (fun h3 => ?_) (fun h3 => ?_)))))))
   ·try have d3 := of_decide_eq_false h3
    try have hbd := book_bd h3
    refine gn (nt h3) rfl rfl rfl (gn (nt h3) rfl rfl rfl (gn (nt h3) rfl rfl rfl (gn (nt h3) rfl rfl rfl (gn (nt h3) rfl rfl rfl (gn (nt h3) rfl rfl rfl (gn (nt h3) rfl rfl rfl (xo (q_pick_t rfl (nt h3) rfl) rfl (xm rfl rfl (gn rfl rfl rfl rfl (gn rfl rfl rfl rfl (gn rfl rfl rfl rfl (gn rfl rfl rfl rfl (gn rfl rfl rfl rfl (gn rfl rfl rfl rfl (gn rfl rfl rfl rfl (xo (q_pick_t rfl rfl rfl) rfl (nl (et (ev_cond_kt rfl rfl (sq (rg (xs rfl rfl (nl (et (ev_ret (evr_then (ret_pure' ttOk rfl rfl (congrArg bR (?_ : _ = _)))))))))))))))))))))))))))))
    simp_all [logOkF, frontF, midF]
   ·try have d3 := of_decide_eq_true h3
    try have hbd := book_bd h3
    refine go (nf h3) rfl rfl (q_fieldAddr ttOk rfl) rfl (go (nf h3) rfl rfl (q_fieldAddr ttOk rfl) rfl (go (nf h3) rfl rfl (q_load ttOk rfl) rfl (go (nf h3) rfl rfl (q_fieldAddr ttOk rfl) rfl (go (nf h3) rfl rfl (q_fieldAddr ttOk rfl) rfl (go (nf h3) rfl rfl (q_load ttOk rfl) rfl (go (nf h3) rfl rfl (q_bin ttOk rfl) rfl (xo (q_pick_f rfl (nf h3) rfl) rfl (xm rfl rfl (evl_part rfl rfl (fun h4 => ?_) (fun h4 => ?_))))))))))
    ·try have d4 := of_decide_eq_true h4
     refine gn h4 rfl rfl rfl (gn h4 rfl rfl rfl (gn h4 rfl rfl rfl (gn h4 rfl rfl rfl (gn h4 rfl rfl rfl (gn h4 rfl rfl rfl (gn h4 rfl rfl rfl (xo (q_pick_t rfl h4 rfl) rfl (nl (et (ev_cond_kt rfl rfl (sq (rg (xs rfl rfl (nl (et (ev_ret (evr_then (ret_pure' ttOk rfl rfl (congrArg bR (?_ : _ = _))))))))))))))))))))
     simp_all [logOkF, frontF, midF]
    ·try have d4 := of_decide_eq_false h4
     refine go h4 rfl rfl (q_fieldAddr ttOk rfl) rfl (go h4 rfl rfl (q_fieldAddr ttOk rfl) rfl (go h4 rfl rfl (q_load ttOk rfl) rfl (go h4 rfl rfl (q_fieldAddr ttOk rfl) rfl (go h4 rfl rfl (q_fieldAddr ttOk rfl) rfl (go h4 rfl rfl (q_load ttOk rfl) rfl (go h4 rfl rfl (q_bin ttOk rfl) rfl (xo (q_pick_f rfl h4 rfl) rfl (nl (et (ev_cond rfl (fun h5 => ?_) (fun h5 => ?_)))))))))))
     ·try have d5 := of_decide_eq_true h5
      refine sq (rg (xs rfl rfl (nl (et (ev_ret (evr_then (ret_pure' ttOk rfl rfl (congrArg bR (?_ : _ = _)))))))))
      simp_all [logOkF, frontF, midF]
     ·try have d5 := of_decide_eq_false h5
      refine ev_skip (et (sq (rg (xf ttOk rfl rfl (xf ttOk rfl rfl (xl ttOk rfl rfl (xf ttOk rfl rfl (xf ttOk rfl rfl (xl ttOk rfl rfl (evl_call (nm := 46) (cf rfl) (c_SeenOver n.head.seen n.book.entries) (rs_of rfl) rfl rfl rfl (xm rfl rfl (xo (q_ext rfl) rfl (xo (q_ext rfl) rfl (xs rfl rfl (xs rfl rfl (nl (et (sq (sq (ev_drawq [] mo (rk0 0 rfl (q_move rfl) rfl (rk0 1 rfl (q_not rfl) rfl (rk0 2 rfl (q_move rfl) rfl (rdk_partn (t := 51) rfl (fun h6 => ?_) (fun h6 => ?_)))))))))))))))))))))))))
      ·try have d6 := of_decide_eq_false h6
       refine rdk_skip 3 rfl kr ⟨_, rfl, .inl ⟨_, rfl, (nt h6)⟩⟩ rfl (rdk_skip 4 rfl kr ⟨_, rfl, .inl ⟨_, rfl, (nt h6)⟩⟩ rfl (rdk_skip 5 rfl kr ⟨_, rfl, .inl ⟨_, rfl, (nt h6)⟩⟩ rfl (rdk_skip 6 rfl kr ⟨_, rfl, .inl ⟨_, rfl, (nt h6)⟩⟩ rfl (rdk_skip 7 rfl kr ⟨_, rfl, .inl ⟨_, rfl, (nt h6)⟩⟩ rfl (rk0 8 rfl (q_pick_t rfl (nt h6) rfl) rfl (rk0 9 rfl (q_move rfl) rfl (rks 10 rfl rfl rfl rfl rfl (rks 11 rfl rfl rfl rfl rfl (rks 12 rfl rfl rfl rfl rfl (rks 13 rfl rfl rfl rfl rfl (rks 14 rfl rfl rfl rfl rfl (rks 15 rfl rfl rfl rfl rfl (rks 16 rfl rfl rfl rfl rfl (rks 17 rfl rfl rfl rfl rfl (rks 18 rfl rfl rfl rfl rfl (rks 19 rfl rfl rfl rfl rfl (rk0 20 rfl (q_pick_t rfl rfl rfl) rfl (rk0 21 rfl (q_move rfl) rfl (rks 22 rfl rfl rfl rfl rfl (rks 23 rfl rfl rfl rfl rfl (rks 24 rfl rfl rfl rfl rfl (rk0 25 rfl (q_pick_t rfl rfl rfl) rfl (rdk_endq kr (et (ev_cond_kt rfl rfl (sq (rg (xs rfl rfl (nl (et (ev_ret (evr_then (ret_pure' ttOk rfl rfl (congrArg bR (?_ : _ = _)))))))))))))))))))))))))))))))))))
       simp_all [logOkF, frontF, midF]
      ·try have d6 := of_decide_eq_true h6
       refine rdk_take 3 rfl kr ⟨_, _, rfl, rfl, (nf h6)⟩ (q_move rfl) rfl (rdk_take 4 rfl kr ⟨_, _, rfl, rfl, (nf h6)⟩ (q_fieldAddr ttOk rfl) rfl (rdk_take 5 rfl kr ⟨_, _, rfl, rfl, (nf h6)⟩ (q_load ttOk rfl) rfl (rdk_one 6 kr (rdo_call (nm := 55) rfl ⟨_, _, rfl, rfl, (nf h6)⟩ (cf rfl) (c_SameSeen (seenOverF n.head.seen n.book.entries).1 n.seen) (rs_of rfl) rfl rfl rfl (rdk_take 7 rfl kr ⟨_, _, rfl, rfl, (nf h6)⟩ (q_not rfl) rfl (rk0 8 rfl (q_pick_f rfl (nf h6) rfl) rfl (rk0 9 rfl (q_move rfl) rfl (rdk_partn (t := 58) rfl (fun h7 => ?_) (fun h7 => ?_)))))))))
       ·try have d7 := of_decide_eq_false h7
        refine rdk_skip 10 rfl kr ⟨_, rfl, .inl ⟨_, rfl, (nt h7)⟩⟩ rfl (rdk_skip 11 rfl kr ⟨_, rfl, .inl ⟨_, rfl, (nt h7)⟩⟩ rfl (rdk_skip 12 rfl kr ⟨_, rfl, .inl ⟨_, rfl, (nt h7)⟩⟩ rfl (rdk_skip 13 rfl kr ⟨_, rfl, .inl ⟨_, rfl, (nt h7)⟩⟩ rfl (rdk_skip 14 rfl kr ⟨_, rfl, .inl ⟨_, rfl, (nt h7)⟩⟩ rfl (rdk_skip 15 rfl kr ⟨_, rfl, .inl ⟨_, rfl, (nt h7)⟩⟩ rfl (rdk_skip 16 rfl kr ⟨_, rfl, .inl ⟨_, rfl, (nt h7)⟩⟩ rfl (rdk_skip 17 rfl kr ⟨_, rfl, .inl ⟨_, rfl, (nt h7)⟩⟩ rfl (rdk_skip 18 rfl kr ⟨_, rfl, .inl ⟨_, rfl, (nt h7)⟩⟩ rfl (rdk_skip 19 rfl kr ⟨_, rfl, .inl ⟨_, rfl, (nt h7)⟩⟩ rfl (rk0 20 rfl (q_pick_t rfl (nt h7) rfl) rfl (rk0 21 rfl (q_move rfl) rfl (rks 22 rfl rfl rfl rfl rfl (rks 23 rfl rfl rfl rfl rfl (rks 24 rfl rfl rfl rfl rfl (rk0 25 rfl (q_pick_t rfl rfl rfl) rfl (rdk_endq kr (et (ev_cond_kt rfl rfl (sq (rg (xs rfl rfl (nl (et (ev_ret (evr_then (ret_pure' ttOk rfl rfl (congrArg bR (?_ : _ = _))))))))))))))))))))))))))))
        simp_all [logOkF, frontF, midF]
       ·try have d7 := of_decide_eq_true h7
        refine rdk_take 10 rfl kr ⟨_, _, rfl, rfl, (nf h7)⟩ (q_fieldAddr ttOk rfl) rfl (rdk_take 11 rfl kr ⟨_, _, rfl, rfl, (nf h7)⟩ (q_load ttOk rfl) rfl (rdk_take 12 rfl kr ⟨_, _, rfl, rfl, (nf h7)⟩ (q_fieldAddr ttOk rfl) rfl (rdk_take 13 rfl kr ⟨_, _, rfl, rfl, (nf h7)⟩ (q_fieldAddr ttOk rfl) rfl (rdk_take 14 rfl kr ⟨_, _, rfl, rfl, (nf h7)⟩ (q_load ttOk rfl) rfl (rdk_take 15 rfl kr ⟨_, _, rfl, rfl, (nf h7)⟩ (q_fieldAddr ttOk rfl) rfl (rdk_take 16 rfl kr ⟨_, _, rfl, rfl, (nf h7)⟩ (q_load ttOk rfl) rfl (rdk_one 17 kr (rdo_call (nm := 66) rfl ⟨_, _, rfl, rfl, (nf h7)⟩ (cf rfl) (c_l8Last n.book ‹_›) (rs_of rfl) rfl rfl rfl (rdk_one 18 kr (rdo_call (nm := 67) rfl ⟨_, _, rfl, rfl, (nf h7)⟩ (cf rfl) (c_l1In _ _ _) (rs_of rfl) rfl rfl rfl (rdk_take 19 rfl kr ⟨_, _, rfl, rfl, (nf h7)⟩ (q_not rfl) rfl (rk0 20 rfl (q_pick_f rfl (nf h7) rfl) rfl (rk0 21 rfl (q_move rfl) rfl (rdk_partn (t := 70) rfl (fun h8 => ?_) (fun h8 => ?_)))))))))))))))
        ·try have d8 := of_decide_eq_false h8
         refine rdk_skip 22 rfl kr ⟨_, rfl, .inl ⟨_, rfl, (nt h8)⟩⟩ rfl (rdk_skip 23 rfl kr ⟨_, rfl, .inl ⟨_, rfl, (nt h8)⟩⟩ rfl (rdk_skip 24 rfl kr ⟨_, rfl, .inl ⟨_, rfl, (nt h8)⟩⟩ rfl (rk0 25 rfl (q_pick_t rfl (nt h8) rfl) rfl (rdk_endq kr (et (ev_cond_kt rfl rfl (sq (rg (xs rfl rfl (nl (et (ev_ret (evr_then (ret_pure' ttOk rfl rfl (congrArg bR (?_ : _ = _))))))))))))))))
         simp_all [logOkF, frontF, midF]
        ·try have d8 := of_decide_eq_true h8
         refine rdk_take 22 rfl kr ⟨_, _, rfl, rfl, (nf h8)⟩ (q_load ttOk rfl) rfl (rdk_one 23 kr (rdo_call (nm := 72) rfl ⟨_, _, rfl, rfl, (nf h8)⟩ (cf rfl) (c_l12Owes n (book_len ‹_›) (dur_bd ‹_› ‹_›)) (rs_of rfl) rfl rfl rfl (rdk_take 24 rfl kr ⟨_, _, rfl, rfl, (nf h8)⟩ (q_not rfl) rfl (rk0 25 rfl (q_pick_f rfl (nf h8) rfl) rfl (rdk_endq kr (et (ev_cond_n rfl (fun h9 => ?_) (fun h9 => ?_))))))))
         ·try have d9 := of_decide_eq_false h9
          refine sq (rg (xs rfl rfl (nl (et (ev_ret (evr_then (ret_pure' ttOk rfl rfl (congrArg bR (?_ : _ = _)))))))))
          simp_all [logOkF, frontF, midF]
         ·try have d9 := of_decide_eq_true h9
          refine ev_skip (et (sq (sq (rg (xf ttOk rfl rfl (xl ttOk rfl rfl (xo (q_not rfl) rfl (nl (et (ev_cond_n rfl (fun h10 => ?_) (fun h10 => ?_)))))))))))
          ·try have d10 := of_decide_eq_false h10
           refine sq (rg (xf ttOk rfl rfl (xl ttOk rfl rfl (xo (q_build ttOk rfl) rfl (evl_nilc 80 3 rfl rfl ?_)))))
           first | refine evl_call (nm := 81) (cf rfl) (c_l12SameHead n.next noHead) (rs_of rfl) rfl rfl rfl ?_ | refine evl_call (nm := 81) (cf rfl) (c_l12SameHead n.next (nextF n n.next.base)) (rs_of rfl) rfl rfl rfl ?_
           refine xs rfl rfl (nl (et (ev_ret (evr_then (ret_pure' ttOk rfl rfl (congrArg bR (?_ : _ = _)))))))
           simp_all [logOkF, frontF, midF]
          ·try have d10 := of_decide_eq_true h10
           refine ev_skip (et (sq (ev_drawq [] mo (rk0 0 rfl (q_fieldAddr ttOk rfl) rfl (rk0 1 rfl (q_fieldAddr ttOk rfl) rfl (rk0 2 rfl (q_load ttOk rfl) rfl (rk0 3 rfl (q_fieldAddr ttOk rfl) rfl (rk0 4 rfl (q_fieldAddr ttOk rfl) rfl (rk0 5 rfl (q_load ttOk rfl) rfl (rk0 6 rfl (q_ar rfl rfl rfl om) rfl (rk0 7 rfl (q_fieldAddr ttOk rfl) rfl (rk0 8 rfl (q_load ttOk rfl) rfl (rdk_one 9 kr (rdo_call (nm := 91) rfl trivial (cf rfl) (c_l1In _ _ _) (rs_of rfl) rfl rfl rfl (rk0 10 rfl (q_move rfl) rfl (rdk_part (t := 92) rfl (fun h11 => ?_) (fun h11 => ?_)))))))))))))))))
           ·try have d11 := of_decide_eq_true h11
            refine rkt 11 rfl rfl rfl h11 (q_fieldAddr ttOk rfl) rfl (rkt 12 rfl rfl rfl h11 (q_load ttOk rfl) rfl (rkt 13 rfl rfl rfl h11 (q_load ttOk rfl) rfl (rkt 14 rfl rfl rfl h11 (q_fieldAddr ttOk rfl) rfl (rkt 15 rfl rfl rfl h11 (q_fieldAddr ttOk rfl) rfl (rkt 16 rfl rfl rfl h11 (q_load ttOk rfl) rfl (rdk_one 17 kr (rdo_call (nm := 99) rfl ⟨_, _, rfl, rfl, h11⟩ (cf rfl) (c_l12Next n n.next.base ‹_› (nb_bd ‹_› om ‹_›) om) (rs_of rfl) rfl rfl rfl (rdk_one 18 kr ?_))))))))
            first | refine rdo_call (nm := 100) rfl ⟨_, _, rfl, rfl, h11⟩ (cf rfl) (c_l12SameHead n.next noHead) (rs_of rfl) rfl rfl rfl ?_ | refine rdo_call (nm := 100) rfl ⟨_, _, rfl, rfl, h11⟩ (cf rfl) (c_l12SameHead n.next (nextF n n.next.base)) (rs_of rfl) rfl rfl rfl ?_
            refine rk0 19 rfl (q_pick_t rfl h11 rfl) rfl (rk0 20 rfl (q_assign rfl) rfl (rdk_endq kr (et (ev_ret (ret_pure' ttOk rfl rfl (congrArg bR (?_ : _ = _)))))))
            simp_all [logOkF, frontF, midF]
           ·try have d11 := of_decide_eq_false h11
            refine rks 11 rfl rfl rfl h11 rfl (rks 12 rfl rfl rfl h11 rfl (rks 13 rfl rfl rfl h11 rfl (rks 14 rfl rfl rfl h11 rfl (rks 15 rfl rfl rfl h11 rfl (rks 16 rfl rfl rfl h11 rfl (rks 17 rfl rfl rfl h11 rfl (rks 18 rfl rfl rfl h11 rfl (rk0 19 rfl (q_pick_f rfl h11 rfl) rfl (rk0 20 rfl (q_assign rfl) rfl (rdk_endq kr (et (ev_ret (ret_pure' ttOk rfl rfl (congrArg bR (?_ : _ = _)))))))))))))))
            simp_all [logOkF, frontF, midF]
theorem c_nextOk (n : LogN) (hb : bookOk n.book = true) (hh : headOk n.head = true) (he : n.book.base = n.head.base) (hd : inB n.durable n.book.base (lastB n.book) = true) : Pure Tryz.prog 117 [many (logC n)] (bR (nextOkF n)) := by
 refine pure_intro (N := 78) Tryz.func117 rfl rfl rfl rfl (fun H w => ?_)
 have hhd := head_bd hh
 have hbd := book_bd hb
 have hdd := inB_iff.1 hd
 refine sq (rg (evl_e (e_box rfl rfl rfl rfl) (xs rfl rfl (nl (et (sq (sq (rg (xf ttOk rfl rfl (xl ttOk rfl rfl (xo (q_not rfl) rfl (nl (et (ev_cond_n rfl (fun h1 => ?_) (fun h1 => ?_)))))))))))))))
 ·try have d1 := of_decide_eq_false h1
  refine sq (rg (xf ttOk rfl rfl (xl ttOk rfl rfl (xo (q_build ttOk rfl) rfl (evl_nilc 12 3 rfl rfl (evl_call (nm := 13) (cf rfl) (c_sameHead n.next noHead) (rs_of rfl) rfl rfl rfl (xs rfl rfl (nl (et (ev_ret (evr_then (ret_pure' ttOk rfl rfl (congrArg bR (?_ : _ = _))))))))))))))
  simp_all [nextOkF] <;> (intros; omega)
 ·try have d1 := of_decide_eq_true h1
  refine ev_skip (et (sq (sq (rg (xf ttOk rfl rfl (xl ttOk rfl rfl (evl_call (nm := 16) (cf rfl) (c_HeadOk' n.next) (rs_of rfl) rfl rfl rfl (xo (q_not rfl) rfl (xm rfl rfl (evl_partn rfl rfl (fun h2 => ?_) (fun h2 => ?_)))))))))))
  ·try have d2 := of_decide_eq_false h2
   refine gn (nt h2) rfl rfl rfl (gn (nt h2) rfl rfl rfl (gn (nt h2) rfl rfl rfl (gn (nt h2) rfl rfl rfl (gn (nt h2) rfl rfl rfl (gn (nt h2) rfl rfl rfl (gn (nt h2) rfl rfl rfl (gn (nt h2) rfl rfl rfl (xo (q_pick_t rfl (nt h2) rfl) rfl (xm rfl rfl (gn rfl rfl rfl rfl (gn rfl rfl rfl rfl (gn rfl rfl rfl rfl (gn rfl rfl rfl rfl (gn rfl rfl rfl rfl (gn rfl rfl rfl rfl (gn rfl rfl rfl rfl (xo (q_pick_t rfl rfl rfl) rfl (xm rfl rfl (gn rfl rfl rfl rfl (gn rfl rfl rfl rfl (gn rfl rfl rfl rfl (gn rfl rfl rfl rfl (gn rfl rfl rfl rfl (gn rfl rfl rfl rfl (xo (q_pick_t rfl rfl rfl) rfl (nl (et (ev_cond_kt rfl rfl (sq (rg (xs rfl rfl (nl (et (ev_ret (evr_then (ret_pure' ttOk rfl rfl (congrArg bR (?_ : _ = _))))))))))))))))))))))))))))))))))))))
   simp_all [nextOkF] <;> (intros; omega)
  ·try have d2 := of_decide_eq_true h2
   refine go (nf h2) rfl rfl (q_fieldAddr ttOk rfl) rfl (go (nf h2) rfl rfl (q_fieldAddr ttOk rfl) rfl (go (nf h2) rfl rfl (q_load ttOk rfl) rfl (go (nf h2) rfl rfl (q_fieldAddr ttOk rfl) rfl (go (nf h2) rfl rfl (q_fieldAddr ttOk rfl) rfl (go (nf h2) rfl rfl (q_load ttOk rfl) rfl (go (nf h2) rfl rfl (q_ar rfl rfl rfl om) rfl (go (nf h2) rfl rfl (q_bin ttOk rfl) rfl (xo (q_pick_f rfl (nf h2) rfl) rfl (xm rfl rfl (evl_part rfl rfl (fun h3 => ?_) (fun h3 => ?_)))))))))))
   ·try have d3 := of_decide_eq_true h3
    refine gn h3 rfl rfl rfl (gn h3 rfl rfl rfl (gn h3 rfl rfl rfl (gn h3 rfl rfl rfl (gn h3 rfl rfl rfl (gn h3 rfl rfl rfl (gn h3 rfl rfl rfl (xo (q_pick_t rfl h3 rfl) rfl (xm rfl rfl (gn rfl rfl rfl rfl (gn rfl rfl rfl rfl (gn rfl rfl rfl rfl (gn rfl rfl rfl rfl (gn rfl rfl rfl rfl (gn rfl rfl rfl rfl (xo (q_pick_t rfl rfl rfl) rfl (nl (et (ev_cond_kt rfl rfl (sq (rg (xs rfl rfl (nl (et (ev_ret (evr_then (ret_pure' ttOk rfl rfl (congrArg bR (?_ : _ = _))))))))))))))))))))))))))))
    simp_all [nextOkF] <;> (intros; omega)
   ·try have d3 := of_decide_eq_false h3
    refine go h3 rfl rfl (q_fieldAddr ttOk rfl) rfl (go h3 rfl rfl (q_fieldAddr ttOk rfl) rfl (go h3 rfl rfl (q_load ttOk rfl) rfl (go h3 rfl rfl (q_fieldAddr ttOk rfl) rfl (go h3 rfl rfl (q_fieldAddr ttOk rfl) rfl (go h3 rfl rfl (q_load ttOk rfl) rfl (go h3 rfl rfl (q_bin ttOk rfl) rfl (xo (q_pick_f rfl h3 rfl) rfl (xm rfl rfl (evl_part rfl rfl (fun h4 => ?_) (fun h4 => ?_))))))))))
    ·try have d4 := of_decide_eq_true h4
     refine gn h4 rfl rfl rfl (gn h4 rfl rfl rfl (gn h4 rfl rfl rfl (gn h4 rfl rfl rfl (gn h4 rfl rfl rfl (gn h4 rfl rfl rfl (xo (q_pick_t rfl h4 rfl) rfl (nl (et (ev_cond_kt rfl rfl (sq (rg (xs rfl rfl (nl (et (ev_ret (evr_then (ret_pure' ttOk rfl rfl (congrArg bR (?_ : _ = _)))))))))))))))))))
     simp_all [nextOkF] <;> (intros; omega)
    ·try have d4 := of_decide_eq_false h4
     refine go h4 rfl rfl (q_fieldAddr ttOk rfl) rfl (go h4 rfl rfl (q_fieldAddr ttOk rfl) rfl (go h4 rfl rfl (q_load ttOk rfl) rfl (go h4 rfl rfl (q_fieldAddr ttOk rfl) rfl (go h4 rfl rfl (q_load ttOk rfl) rfl (go h4 rfl rfl (q_bin ttOk rfl) rfl (xo (q_pick_f rfl h4 rfl) rfl (nl (et (ev_cond rfl (fun h5 => ?_) (fun h5 => ?_))))))))))
     ·try have d5 := of_decide_eq_true h5
      refine sq (rg (xs rfl rfl (nl (et (ev_ret (evr_then (ret_pure' ttOk rfl rfl (congrArg bR (?_ : _ = _)))))))))
      simp_all [nextOkF] <;> (intros; omega)
     ·try have d5 := of_decide_eq_false h5
      refine ev_skip (et (sq (rg (xf ttOk rfl rfl (xl ttOk rfl rfl (xf ttOk rfl rfl (xf ttOk rfl rfl (xl ttOk rfl rfl (evl_call (nm := 51) (cf rfl) (c_EntryAt n.book n.next.base) (rs_of rfl) rfl rfl rfl (xm rfl rfl (xo (q_ext rfl) rfl (xo (q_ext rfl) rfl (evl_e (e_alloc ttOk rfl rfl rfl rfl) (xst ttOk rfl rfl (xs rfl rfl (nl (et (sq (rg (xf ttOk rfl rfl (xl ttOk rfl rfl (xf ttOk rfl rfl (xl ttOk rfl rfl (xf ttOk rfl rfl (xf ttOk rfl rfl (xl ttOk rfl rfl (evl_call (nm := 62) (cf rfl) (c_seenUpTo n.head n.book n.next.base hb om) (rs_of rfl) rfl rfl rfl (xm rfl rfl (xo (q_ext rfl) rfl (xo (q_ext rfl) rfl (xs rfl rfl (xs rfl rfl (nl (et (sq (rg (xf ttOk rfl rfl (xf ttOk rfl rfl (xl ttOk rfl rfl (xf ttOk rfl rfl (xl ttOk rfl rfl (xb ttOk rfl rfl (xm rfl rfl (evl_part rfl rfl (fun h6 => ?_) (fun h6 => ?_)))))))))))))))))))))))))))))))))))))))))))))
      ·try have d6 := of_decide_eq_true h6
       refine go h6 rfl rfl (q_fieldAddr ttOk rfl) rfl (go h6 rfl rfl (q_fieldAddr ttOk rfl) rfl (go h6 rfl rfl (q_load ttOk rfl) rfl (gm h6 rfl rfl rfl rfl (evl_callg rfl rfl h6 (nm := 76) (cf rfl) (c_SameSeen' n.next.seen (seenOverF n.head.seen (n.book.entries.take (n.next.base - n.book.base).toNat)).1) (rs_of rfl) rfl rfl rfl (xo (q_pick_t rfl h6 rfl) rfl (xs rfl rfl (nl (et (ev_ret (ret_pure' ttOk rfl rfl (congrArg bR (?_ : _ = _))))))))))))
       simp_all [nextOkF] <;> (intros; omega)
      ·try have d6 := of_decide_eq_false h6
       refine gn h6 rfl rfl rfl (gn h6 rfl rfl rfl (gn h6 rfl rfl rfl (gn h6 rfl rfl rfl (gn h6 rfl rfl rfl (xo (q_pick_f rfl h6 rfl) rfl (xs rfl rfl (nl (et (ev_ret (ret_pure' ttOk rfl rfl (congrArg bR (?_ : _ = _))))))))))))
       simp_all [nextOkF] <;> (intros; omega)
theorem c_LogOk' (n : LogN) : Pure Tryz.prog 46 [many (logC n)] (bR (logOkI n)) := by
 refine pure_intro (N := 82) Tryz.func46 rfl rfl rfl rfl (fun H w => ?_)
 refine sq (rg (evl_e (e_box rfl rfl rfl rfl) (xs rfl rfl (nl (et (sq (sq (rg (xf ttOk rfl rfl (xl ttOk rfl rfl (evl_call (nm := 7) (cf rfl) (c_KeptOk' n.two) (rs_of rfl) rfl rfl rfl (xo (q_not rfl) rfl (xm rfl rfl (evl_partn rfl rfl (fun h1 => ?_) (fun h1 => ?_)))))))))))))))
 ·try have d1 := of_decide_eq_false h1
  refine gn (nt h1) rfl rfl rfl (gn (nt h1) rfl rfl rfl (gn (nt h1) rfl rfl rfl (gn (nt h1) rfl rfl rfl (xo (q_pick_t rfl (nt h1) rfl) rfl (xm rfl rfl (gn rfl rfl rfl rfl (gn rfl rfl rfl rfl (gn rfl rfl rfl rfl (gn rfl rfl rfl rfl (xo (q_pick_t rfl rfl rfl) rfl (xm rfl rfl (gn rfl rfl rfl rfl (gn rfl rfl rfl rfl (gn rfl rfl rfl rfl (gn rfl rfl rfl rfl (gn rfl rfl rfl rfl (gn rfl rfl rfl rfl (gn rfl rfl rfl rfl (xo (q_pick_t rfl rfl rfl) rfl (xm rfl rfl (gn rfl rfl rfl rfl (gn rfl rfl rfl rfl (gn rfl rfl rfl rfl (gn rfl rfl rfl rfl (gn rfl rfl rfl rfl (gn rfl rfl rfl rfl (gn rfl rfl rfl rfl (xo (q_pick_t rfl rfl rfl) rfl (nl (et (ev_cond_kt rfl rfl (sq (rg (xs rfl rfl (nl (et (ev_ret (evr_then (ret_pure' ttOk rfl rfl (congrArg bR (?_ : _ = _)))))))))))))))))))))))))))))))))))))))))
  simp_all [logOkI, frontF, midF]
 ·try have d1 := of_decide_eq_true h1
  refine go (nf h1) rfl rfl (q_fieldAddr ttOk rfl) rfl (go (nf h1) rfl rfl (q_load ttOk rfl) rfl (evl_callg rfl rfl (nf h1) (nm := 12) (cf rfl) (c_HeadOk' n.head) (rs_of rfl) rfl rfl rfl (go (nf h1) rfl rfl (q_not rfl) rfl (xo (q_pick_f rfl (nf h1) rfl) rfl (xm rfl rfl (evl_partn rfl rfl (fun h2 => ?_) (fun h2 => ?_)))))))
  ·try have d2 := of_decide_eq_false h2
   try have hhd := head_bd h2
   refine gn (nt h2) rfl rfl rfl (gn (nt h2) rfl rfl rfl (gn (nt h2) rfl rfl rfl (gn (nt h2) rfl rfl rfl (xo (q_pick_t rfl (nt h2) rfl) rfl (xm rfl rfl (gn rfl rfl rfl rfl (gn rfl rfl rfl rfl (gn rfl rfl rfl rfl (gn rfl rfl rfl rfl (gn rfl rfl rfl rfl (gn rfl rfl rfl rfl (gn rfl rfl rfl rfl (xo (q_pick_t rfl rfl rfl) rfl (xm rfl rfl (gn rfl rfl rfl rfl (gn rfl rfl rfl rfl (gn rfl rfl rfl rfl (gn rfl rfl rfl rfl (gn rfl rfl rfl rfl (gn rfl rfl rfl rfl (gn rfl rfl rfl rfl (xo (q_pick_t rfl rfl rfl) rfl (nl (et (ev_cond_kt rfl rfl (sq (rg (xs rfl rfl (nl (et (ev_ret (evr_then (ret_pure' ttOk rfl rfl (congrArg bR (?_ : _ = _)))))))))))))))))))))))))))))))))))
   simp_all [logOkI, frontF, midF]
  ·try have d2 := of_decide_eq_true h2
   try have hhd := head_bd h2
   refine go (nf h2) rfl rfl (q_fieldAddr ttOk rfl) rfl (go (nf h2) rfl rfl (q_load ttOk rfl) rfl (evl_callg rfl rfl (nf h2) (nm := 18) (cf rfl) (c_BookOk' n.book) (rs_of rfl) rfl rfl rfl (go (nf h2) rfl rfl (q_not rfl) rfl (xo (q_pick_f rfl (nf h2) rfl) rfl (xm rfl rfl (evl_partn rfl rfl (fun h3 => ?_) (fun h3 => ?_)))))))
   ·try have d3 := of_decide_eq_false h3
    try have hbd := book_bd h3
    refine gn (nt h3) rfl rfl rfl (gn (nt h3) rfl rfl rfl (gn (nt h3) rfl rfl rfl (gn (nt h3) rfl rfl rfl (gn (nt h3) rfl rfl rfl (gn (nt h3) rfl rfl rfl (gn (nt h3) rfl rfl rfl (xo (q_pick_t rfl (nt h3) rfl) rfl (xm rfl rfl (gn rfl rfl rfl rfl (gn rfl rfl rfl rfl (gn rfl rfl rfl rfl (gn rfl rfl rfl rfl (gn rfl rfl rfl rfl (gn rfl rfl rfl rfl (gn rfl rfl rfl rfl (xo (q_pick_t rfl rfl rfl) rfl (nl (et (ev_cond_kt rfl rfl (sq (rg (xs rfl rfl (nl (et (ev_ret (evr_then (ret_pure' ttOk rfl rfl (congrArg bR (?_ : _ = _)))))))))))))))))))))))))))))
    simp_all [logOkI, frontF, midF]
   ·try have d3 := of_decide_eq_true h3
    try have hbd := book_bd h3
    refine go (nf h3) rfl rfl (q_fieldAddr ttOk rfl) rfl (go (nf h3) rfl rfl (q_fieldAddr ttOk rfl) rfl (go (nf h3) rfl rfl (q_load ttOk rfl) rfl (go (nf h3) rfl rfl (q_fieldAddr ttOk rfl) rfl (go (nf h3) rfl rfl (q_fieldAddr ttOk rfl) rfl (go (nf h3) rfl rfl (q_load ttOk rfl) rfl (go (nf h3) rfl rfl (q_bin ttOk rfl) rfl (xo (q_pick_f rfl (nf h3) rfl) rfl (xm rfl rfl (evl_part rfl rfl (fun h4 => ?_) (fun h4 => ?_))))))))))
    ·try have d4 := of_decide_eq_true h4
     refine gn h4 rfl rfl rfl (gn h4 rfl rfl rfl (gn h4 rfl rfl rfl (gn h4 rfl rfl rfl (gn h4 rfl rfl rfl (gn h4 rfl rfl rfl (gn h4 rfl rfl rfl (xo (q_pick_t rfl h4 rfl) rfl (nl (et (ev_cond_kt rfl rfl (sq (rg (xs rfl rfl (nl (et (ev_ret (evr_then (ret_pure' ttOk rfl rfl (congrArg bR (?_ : _ = _))))))))))))))))))))
     simp_all [logOkI, frontF, midF]
    ·try have d4 := of_decide_eq_false h4
     refine go h4 rfl rfl (q_fieldAddr ttOk rfl) rfl (go h4 rfl rfl (q_fieldAddr ttOk rfl) rfl (go h4 rfl rfl (q_load ttOk rfl) rfl (go h4 rfl rfl (q_fieldAddr ttOk rfl) rfl (go h4 rfl rfl (q_fieldAddr ttOk rfl) rfl (go h4 rfl rfl (q_load ttOk rfl) rfl (go h4 rfl rfl (q_bin ttOk rfl) rfl (xo (q_pick_f rfl h4 rfl) rfl (nl (et (ev_cond rfl (fun h5 => ?_) (fun h5 => ?_)))))))))))
     ·try have d5 := of_decide_eq_true h5
      refine sq (rg (xs rfl rfl (nl (et (ev_ret (evr_then (ret_pure' ttOk rfl rfl (congrArg bR (?_ : _ = _)))))))))
      simp_all [logOkI, frontF, midF]
     ·try have d5 := of_decide_eq_false h5
      refine ev_skip (et (sq (rg (xf ttOk rfl rfl (xf ttOk rfl rfl (xl ttOk rfl rfl (xf ttOk rfl rfl (xf ttOk rfl rfl (xl ttOk rfl rfl (evl_call (nm := 46) (cf rfl) (c_SeenOver' n.head.seen n.book.entries) (rs_of rfl) rfl rfl rfl (xm rfl rfl (xo (q_ext rfl) rfl (xo (q_ext rfl) rfl (xs rfl rfl (xs rfl rfl (nl (et (sq (sq (ev_drawq [] mo (rk0 0 rfl (q_move rfl) rfl (rk0 1 rfl (q_not rfl) rfl (rk0 2 rfl (q_move rfl) rfl (rdk_partn (t := 51) rfl (fun h6 => ?_) (fun h6 => ?_)))))))))))))))))))))))))
      ·try have d6 := of_decide_eq_false h6
       refine rdk_skip 3 rfl kr ⟨_, rfl, .inl ⟨_, rfl, (nt h6)⟩⟩ rfl (rdk_skip 4 rfl kr ⟨_, rfl, .inl ⟨_, rfl, (nt h6)⟩⟩ rfl (rdk_skip 5 rfl kr ⟨_, rfl, .inl ⟨_, rfl, (nt h6)⟩⟩ rfl (rdk_skip 6 rfl kr ⟨_, rfl, .inl ⟨_, rfl, (nt h6)⟩⟩ rfl (rdk_skip 7 rfl kr ⟨_, rfl, .inl ⟨_, rfl, (nt h6)⟩⟩ rfl (rk0 8 rfl (q_pick_t rfl (nt h6) rfl) rfl (rk0 9 rfl (q_move rfl) rfl (rks 10 rfl rfl rfl rfl rfl (rks 11 rfl rfl rfl rfl rfl (rks 12 rfl rfl rfl rfl rfl (rks 13 rfl rfl rfl rfl rfl (rks 14 rfl rfl rfl rfl rfl (rks 15 rfl rfl rfl rfl rfl (rks 16 rfl rfl rfl rfl rfl (rks 17 rfl rfl rfl rfl rfl (rks 18 rfl rfl rfl rfl rfl (rks 19 rfl rfl rfl rfl rfl (rk0 20 rfl (q_pick_t rfl rfl rfl) rfl (rdk_endq kr (et (ev_cond_kt rfl rfl (sq (rg (xs rfl rfl (nl (et (ev_ret (evr_then (ret_pure' ttOk rfl rfl (congrArg bR (?_ : _ = _))))))))))))))))))))))))))))))
       simp_all [logOkI, frontF, midF]
      ·try have d6 := of_decide_eq_true h6
       refine rdk_take 3 rfl kr ⟨_, _, rfl, rfl, (nf h6)⟩ (q_move rfl) rfl (rdk_take 4 rfl kr ⟨_, _, rfl, rfl, (nf h6)⟩ (q_fieldAddr ttOk rfl) rfl (rdk_take 5 rfl kr ⟨_, _, rfl, rfl, (nf h6)⟩ (q_load ttOk rfl) rfl (rdk_one 6 kr (rdo_call (nm := 55) rfl ⟨_, _, rfl, rfl, (nf h6)⟩ (cf rfl) (c_SameSeen' (seenOverF n.head.seen n.book.entries).1 n.seen) (rs_of rfl) rfl rfl rfl (rdk_take 7 rfl kr ⟨_, _, rfl, rfl, (nf h6)⟩ (q_not rfl) rfl (rk0 8 rfl (q_pick_f rfl (nf h6) rfl) rfl (rk0 9 rfl (q_move rfl) rfl (rdk_partn (t := 58) rfl (fun h7 => ?_) (fun h7 => ?_)))))))))
       ·try have d7 := of_decide_eq_false h7
        refine rdk_skip 10 rfl kr ⟨_, rfl, .inl ⟨_, rfl, (nt h7)⟩⟩ rfl (rdk_skip 11 rfl kr ⟨_, rfl, .inl ⟨_, rfl, (nt h7)⟩⟩ rfl (rdk_skip 12 rfl kr ⟨_, rfl, .inl ⟨_, rfl, (nt h7)⟩⟩ rfl (rdk_skip 13 rfl kr ⟨_, rfl, .inl ⟨_, rfl, (nt h7)⟩⟩ rfl (rdk_skip 14 rfl kr ⟨_, rfl, .inl ⟨_, rfl, (nt h7)⟩⟩ rfl (rdk_skip 15 rfl kr ⟨_, rfl, .inl ⟨_, rfl, (nt h7)⟩⟩ rfl (rdk_skip 16 rfl kr ⟨_, rfl, .inl ⟨_, rfl, (nt h7)⟩⟩ rfl (rdk_skip 17 rfl kr ⟨_, rfl, .inl ⟨_, rfl, (nt h7)⟩⟩ rfl (rdk_skip 18 rfl kr ⟨_, rfl, .inl ⟨_, rfl, (nt h7)⟩⟩ rfl (rdk_skip 19 rfl kr ⟨_, rfl, .inl ⟨_, rfl, (nt h7)⟩⟩ rfl (rk0 20 rfl (q_pick_t rfl (nt h7) rfl) rfl (rdk_endq kr (et (ev_cond_kt rfl rfl (sq (rg (xs rfl rfl (nl (et (ev_ret (evr_then (ret_pure' ttOk rfl rfl (congrArg bR (?_ : _ = _)))))))))))))))))))))))
        simp_all [logOkI, frontF, midF]
       ·try have d7 := of_decide_eq_true h7
        refine rdk_take 10 rfl kr ⟨_, _, rfl, rfl, (nf h7)⟩ (q_fieldAddr ttOk rfl) rfl (rdk_take 11 rfl kr ⟨_, _, rfl, rfl, (nf h7)⟩ (q_load ttOk rfl) rfl (rdk_take 12 rfl kr ⟨_, _, rfl, rfl, (nf h7)⟩ (q_fieldAddr ttOk rfl) rfl (rdk_take 13 rfl kr ⟨_, _, rfl, rfl, (nf h7)⟩ (q_fieldAddr ttOk rfl) rfl (rdk_take 14 rfl kr ⟨_, _, rfl, rfl, (nf h7)⟩ (q_load ttOk rfl) rfl (rdk_take 15 rfl kr ⟨_, _, rfl, rfl, (nf h7)⟩ (q_fieldAddr ttOk rfl) rfl (rdk_take 16 rfl kr ⟨_, _, rfl, rfl, (nf h7)⟩ (q_load ttOk rfl) rfl (rdk_one 17 kr (rdo_call (nm := 66) rfl ⟨_, _, rfl, rfl, (nf h7)⟩ (cf rfl) (c_lastOf n.book ‹_›) (rs_of rfl) rfl rfl rfl (rdk_one 18 kr (rdo_call (nm := 67) rfl ⟨_, _, rfl, rfl, (nf h7)⟩ (cf rfl) (c_between _ _ _) (rs_of rfl) rfl rfl rfl (rdk_take 19 rfl kr ⟨_, _, rfl, rfl, (nf h7)⟩ (q_not rfl) rfl (rk0 20 rfl (q_pick_f rfl (nf h7) rfl) rfl (rdk_endq kr (et (ev_cond_n rfl (fun h8 => ?_) (fun h8 => ?_))))))))))))))))
        ·try have d8 := of_decide_eq_false h8
         refine sq (rg (xs rfl rfl (nl (et (ev_ret (evr_then (ret_pure' ttOk rfl rfl (congrArg bR (?_ : _ = _)))))))))
         simp_all [logOkI, frontF, midF]
        ·try have d8 := of_decide_eq_true h8
         refine ev_skip (et (sq (ev_drawq [] mo (rk0 0 rfl (q_load ttOk rfl) rfl (rdk_one 1 kr (rdo_call (nm := 71) rfl trivial (cf rfl) (c_nextOk n ‹_› ‹_› om ‹_›) (rs_of rfl) rfl rfl rfl (rk0 2 rfl (q_move rfl) rfl (rdk_part (t := 72) rfl (fun h9 => ?_) (fun h9 => ?_)))))))))
         ·try have d9 := of_decide_eq_true h9
          refine rkt 3 rfl rfl rfl h9 (q_fieldAddr ttOk rfl) rfl (rkt 4 rfl rfl rfl h9 (q_load ttOk rfl) rfl (rkt 5 rfl rfl rfl h9 (q_fieldAddr ttOk rfl) rfl (rkt 6 rfl rfl rfl h9 (q_load ttOk rfl) rfl (rkt 7 rfl rfl rfl h9 (q_fieldAddr ttOk rfl) rfl (rkt 8 rfl rfl rfl h9 (q_load ttOk rfl) rfl (rdk_one 9 kr (rdo_call (nm := 79) rfl ⟨_, _, rfl, rfl, h9⟩ (cf rfl) (c_owed2 n.book n.durable (dur_bd ‹_› ‹_›) (book_len ‹_›)) (rs_of rfl) rfl rfl rfl (rdk_one 10 kr (rdo_call (nm := 80) rfl ⟨_, _, rfl, rfl, h9⟩ (cf rfl) (c_eqAcks n.owe ((fromF n.book (n.durable + 1)).map ackF)) (rs_of rfl) rfl rfl rfl (rk0 11 rfl (q_pick_t rfl h9 rfl) rfl (rk0 12 rfl (q_assign rfl) rfl (rdk_endq kr (et (ev_ret (ret_pure' ttOk rfl rfl (congrArg bR (?_ : _ = _)))))))))))))))))
          simp_all [logOkI, frontF, midF]
         ·try have d9 := of_decide_eq_false h9
          refine rks 3 rfl rfl rfl h9 rfl (rks 4 rfl rfl rfl h9 rfl (rks 5 rfl rfl rfl h9 rfl (rks 6 rfl rfl rfl h9 rfl (rks 7 rfl rfl rfl h9 rfl (rks 8 rfl rfl rfl h9 rfl (rks 9 rfl rfl rfl h9 rfl (rks 10 rfl rfl rfl h9 rfl (rk0 11 rfl (q_pick_f rfl h9 rfl) rfl (rk0 12 rfl (q_assign rfl) rfl (rdk_endq kr (et (ev_ret (ret_pure' ttOk rfl rfl (congrArg bR (?_ : _ = _)))))))))))))))
          simp_all [logOkI, frontF, midF]
theorem ents_ok {l : List Entry} (h : entriesOk l = true) : ∀ e ∈ l, entryOk e = true := fun e he => by
 obtain ⟨k, hk, rfl⟩ := List.mem_iff_getElem.1 he
 have := (entriesOk_iff.1 h).2 k hk
 rw [entStep_at hk] at this
 simp only [Bool.and_eq_true] at this
 exact this.1
theorem book_first {b : Book} (hb : bookOk b = true) (h : 0 < b.entries.length) : b.entries[0].index = b.base + 1 := by
 simp only [bookOk, Bool.and_eq_true] at hb
 have h6 := hb.2.2.2.2.2
 revert h6 h
 cases b.entries with
 | nil => intro h; simp at h
 | cons e es =>
  intro h h6
  simp only [Bool.and_eq_true, decide_eq_true_eq] at h6
  exact h6.1
theorem ent_ix {b : Book} (hb : bookOk b = true) : ∀ j (hj : j < b.entries.length), b.entries[j].index = b.base + 1 + j
 | 0, hj => by rw [book_first hb hj]; simp
 | j + 1, hj => by
  have h1 := (entriesOk_iff.1 (book_bd hb).2.2.2.2).2 (j + 1) hj
  rw [entStep_at hj, entOver_at hj om] at h1
  simp only [Bool.and_eq_true, decide_eq_true_eq] at h1
  have h2 := ent_ix hb j om
  have h3 : b.entries[j + 1].index = b.entries[j].index + 1 := h1.2.1
  rw [h3, h2]
  omega
theorem from_part {b : Book} (hb : bookOk b = true) (x : Int) : fromF b x = partF b x 2000 := by
 unfold fromF partF
 refine List.filter_congr fun e he => ?_
 have := entry_ix (ents_ok (book_bd hb).2.2.2.2 e he)
 by_cases h : x ≤ e.index
 ·simp [inB, h, this.2]
 ·simp [inB, h]
theorem filt_run : ∀ (l : List Entry) (a c x : Int), a ≤ c → (∀ j (hj : j < l.length), l[j].index = c + j) → l.filter (fun e => inB e.index a x) = l.take (x - c + 1).toNat
 | [], a, c, x, _, _ => by simp
 | e :: t, a, c, x, ha, h => by
  have h0 : e.index = c := by have := h 0 (by simp); simpa using this
  have ih := filt_run t a (c + 1) x om fun j hj => by
   have := h (j + 1) (by simpa using hj)
   simp only [List.getElem_cons_succ] at this
   rw [this]; omega
  by_cases hx : c ≤ x
  ·rw [List.filter_cons_of_pos (by simp [inB, h0, ha, hx]), ih, show (x - c + 1).toNat = (x - (c + 1) + 1).toNat + 1 by omega, List.take_succ_cons]
  ·rw [List.filter_cons_of_neg (by simp [inB, h0, hx]), ih, show (x - c + 1).toNat = 0 by omega, show (x - (c + 1) + 1).toNat = 0 by omega]
   simp
theorem part_take {b : Book} (hb : bookOk b = true) (x : Int) : partF b (b.base + 1) x = b.entries.take (x - b.base).toNat := by
 unfold partF
 rw [filt_run b.entries (b.base + 1) (b.base + 1) x (Int.le_refl _) (ent_ix hb), show (x - (b.base + 1) + 1).toNat = (x - b.base).toNat by omega]
theorem over_prefix {l c : List Mark} {es : List Entry} (h : overL l es = some c) (m : Nat) : ∃ c', overL l (es.take m) = some c' := by
 cases h1 : overL l (es.take m) with
 | some c' => exact ⟨c', rfl⟩
 | none =>
  have := overL_none (es := es.drop m) h1
  rw [List.take_append_drop, h] at this
  cases this
theorem over_last {l c : List Mark} {es : List Entry} {m : Nat} (hs : SOk l) (hm : m < es.length) (h : overL l (es.take (m + 1)) = some c) : lastF c = es[m].index := by
 rw [List.take_succ_eq_append_getElem hm, overL_snoc] at h
 cases h1 : overL l (es.take m) with
 | none => rw [h1] at h; cases h
 | some c' =>
  rw [h1] at h
  simp only [Option.bind_some] at h
  split at h
  ·rename_i hf
   cases h
   exact (fresh_ok (over_sok hs h1) hf).2
  ·cases h
theorem so_some {l : List Mark} {es : List Entry} (h : (seenOverF l es).2 = true) : ∃ c, overL l es = some c := by
 unfold seenOverF at h
 split at h
 ·split at h
  ·split at h
   ·rename_i c hc; exact ⟨c, hc⟩
   ·cases h
  ·cases h
 ·cases h
theorem marks_eq {l m : List Mark} (h : eqN Mark.nums l m = true) : l = m := by
 have h1 : l.map Mark.nums = m.map Mark.nums := of_decide_eq_true h
 have key : ∀ {l m : List Mark}, l.map Mark.nums = m.map Mark.nums → l = m := by
  intro l
  induction l with
  | nil => intro m h; cases m with
   | nil => rfl
   | cons _ _ => simp at h
  | cons a l ih =>
   intro m h
   cases m with
   | nil => simp at h
   | cons b m =>
    simp only [List.map_cons, List.cons.injEq] at h
    rw [Mark.ext' h.1, ih h.2]
 exact key h1
theorem next_same {n : LogN} (hf : frontF n = true) (hm : midF n = true) (hmo : n.more = true) : (inB n.next.base (n.head.base + 1) n.durable && eqHd n.next (nextF n n.next.base)) = nextOkF n := by
 simp only [frontF, Bool.and_eq_true, decide_eq_true_eq] at hf
 simp only [midF, Bool.and_eq_true] at hm
 obtain ⟨_, hh, hb, he, _⟩ := hf
 obtain ⟨hso, _, hd⟩ := hm
 have hhd := head_bd hh
 have hbd := book_bd hb
 have hdd := inB_iff.1 hd
 by_cases hx : n.head.base < n.next.base ∧ n.next.base ≤ n.durable
 ·obtain ⟨m, hm1, hm2⟩ := at_get (b := n.book) (x := n.next.base) om om
  have hs := sok_of hhd.2.2.2.2
  obtain ⟨c, hc⟩ := so_some hso
  have htk : (n.next.base - n.book.base).toNat = m + 1 := by omega
  obtain ⟨c', hc'⟩ := over_prefix hc (m + 1)
  have hSO : seenOverF n.head.seen (n.book.entries.take (m + 1)) = (c', true) := so4 hhd.2.2.2.2 (by rw [List.length_take]; omega) hc'
  have hin : inB n.next.base (n.book.base + 1) (lastB n.book) = true := inB_iff.2 ⟨by omega, by omega⟩
  have hent : entAtF n.book n.next.base = (n.book.entries[m], true) := ent_yes hb hin hm1 hm2
  have htime : timeAtF n.book n.next.base = n.book.entries[m].time := by
   unfold timeAtF
   rw [if_neg om, atB_eq hm1 hm2]
  have hin2 : inB n.next.base (n.head.base + 1) n.durable = true := inB_iff.2 ⟨by omega, by omega⟩
  have hix := ent_ix hb m hm2
  have heo := ents_ok hbd.2.2.2.2 _ (List.getElem_mem hm2)
  have hix2 := entry_ix heo
  simp only [nextOkF, hmo, if_true, hin2, Bool.true_and, eqHd, nextF, part_take hb, htk, hSO, hent, htime, hx.1, hx.2, decide_true]
  by_cases h1 : n.next.num = n.head.num + 1
  ·by_cases h2 : n.next.time = n.book.entries[m].time
   ·cases h3 : eqN Mark.nums n.next.seen c'
    ·simp
    ·have h4 := marks_eq h3
     have h5 : headOk n.next = true := by
      have hto : timeOk n.book.entries[m].time = true := by
       simp only [entryOk, Bool.and_eq_true] at heo
       exact heo.2.1
      have hla := over_last hs hm2 hc'
      have hsc := of_sok (over_sok hs hc')
      have k1 : inB n.next.base 0 2000 = true := inB_iff.2 ⟨by omega, by omega⟩
      have k2 : inB n.next.num 0 n.next.base = true := inB_iff.2 ⟨by omega, by omega⟩
      have k3 : n.next.base > 0 := by omega
      have k4 : lastF n.next.seen = n.next.base := by rw [h4, hla, hix]; omega
      simp only [headOk, k1, k2, k3, k4, h2, hto, h4, hsc]
      rw [← h4, k4]
      simp
     simp [h1, h2, h5]
   ·simp [h2]
  ·simp [h1]
 ·have hA : inB n.next.base (n.head.base + 1) n.durable = false := by
   cases h9 : inB n.next.base (n.head.base + 1) n.durable with
   | false => rfl
   | true => have := inB_iff.1 h9; omega
  rw [hA, Bool.false_and]
  simp only [nextOkF, hmo, if_true]
  by_cases h1 : n.head.base < n.next.base
  ·have h2 : ¬ n.next.base ≤ n.durable := fun h => hx ⟨h1, h⟩
   simp [h2]
  ·simp [h1]
theorem logOk_same (n : LogN) : logOkI n = logOkF n := by
 unfold logOkI logOkF
 cases hf : frontF n
 ·rfl
 ·cases hm : midF n
  ·rfl
  ·have hb : bookOk n.book = true := by
    simp only [frontF, Bool.and_eq_true] at hf
    exact hf.2.2.1
   simp only [Bool.true_and]
   have ho : eqN Ack.nums n.owe ((fromF n.book (n.durable + 1)).map ackF) = owesF n := by rw [from_part hb]; rfl
   rw [ho, Bool.and_comm]
   congr 1
   cases hmo : n.more
   ·simp [nextOkF, hmo]
   ·rw [← next_same hf hm hmo]; simp
theorem flat_entries (l : List Entry) : ∀ cs ∈ l.map entryC, ∀ c ∈ cs, ∃ x, c = .v x := by
 intro cs h c hc
 obtain ⟨x, _, rfl⟩ := List.mem_map.1 h
 simp only [List.mem_cons, List.not_mem_nil, or_false] at hc
 rcases hc with rfl | rfl | rfl | rfl | rfl | rfl | rfl | rfl | rfl <;> exact ⟨_, rfl⟩
theorem c_copyBook (b : Book) (h : b.entries.length ≤ 1048576) : Pure Tryz.prog 141 [many (bookC b)] [many' (bookR b)] := by
 refine pure_intro (N := 12) Tryz.func141 rfl rfl rfl rfl (fun H w => ?_)
 refine sq (rg (evl_e (e_box rfl rfl rfl rfl) (evl_e (e_alloc ttOk rfl rfl rfl rfl) (nl (et (sq ?_))))))
 refine ev_freeze (cs := bookC b) 1 rfl (fun H2 hH2 => ?_)
 show Ev _ _ _ _ (⟨[(2, .p false [.pb 2 0]), (1, .p false [.pe [iC b.base, iC b.time, entries b.entries]]), (0, .p true [.c (iC b.base), .c (iC b.time), .c (entries b.entries)])], [(2, 52, [.c (iC 0), .c (iC 0), .c .nil])], [], []⟩ : St)
 refine ev_drawh mo (rdh_take 0 rfl kr trivial (QuietW.h (qw_fieldAddr ttOk rfl)) rfl (rdh_take 1 rfl kr trivial (q_loadH ttOk rfl rfl) rfl (rdh_take 2 rfl kr trivial (QuietW.h (qw_fieldAddr ttOk rfl)) rfl (rdh_take 3 rfl kr trivial (q_loadH ttOk rfl rfl) rfl (rdh_take 5 rfl kr trivial (QuietW.h (qw_fieldAddr ttOk rfl)) rfl (rdh_take 6 rfl kr trivial (q_loadH ttOk rfl rfl) rfl (rdh_one 4 rfl kr trivial (e_lit ttOk rfl rfl rfl) (rdh_one 7 rfl kr trivial (e_app_c ttOk rfl rfl rfl rfl rfl (flat_entries _) (by simp; omega) rfl rfl) (rdh_q 8 rfl kr trivial (q_build ttOk rfl) rfl (rdh_one 9 rfl kr trivial (e_store ttOk rfl) (rdh_endq kr ?_)))))))))))
 refine et (ev_ret ?_)
 exact retH rfl (ret_pure' ttOk rfl rfl rfl)
def pk (F : List Int) (i : Nat) : Nat → List Int
 | 0 => []
 | k + 1 => pk F i k ++ [F.getD (i + 2 * k) 0]
def zeroL : LogN := ⟨zeroT, noHead, noHead, false, ⟨0, 0, []⟩, [], 0, []⟩
end Go.Proofs.YtinmcdcmidlgpaaGreatDoor
