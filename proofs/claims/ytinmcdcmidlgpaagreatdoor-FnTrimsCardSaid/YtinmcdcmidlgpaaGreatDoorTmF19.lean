/- Walks of functions of the program, printed by a program of the prover. -/
import Derived.Test.YtinmcdcmidlgpaaGreatDoorTmF9
import Derived.Test.YtinmcdcmidlgpaaGreatDoorTmVN
namespace Go.Proofs.YtinmcdcmidlgpaaGreatDoor
open Go.ChangeShapes Go.WideShapes Go.ChangeAt Go.RowKit
set_option linter.unusedVariables false
set_option linter.unusedSimpArgs false
set_option maxHeartbeats 1000000
set_option maxRecDepth 100000
attribute [local irreducible] EvL Ev EvE Quiet Eff Pure RDk RDb RDo
structure Head where
 num : Int
 base : Int
 time : Int
 seen : List Mark
@[reducible] def headC (h : Head) : List C := [iC h.num, iC h.base, iC h.time, marks h.seen]
@[reducible] def marksR (l : List Mark) : RC := .s 94 3 (l.map markC)
@[reducible] def headR (h : Head) : List RC := [.v (.int .i64 h.num), .v (.int .i64 h.base), .v (.int .i64 h.time), marksR h.seen]
def headOk (h : Head) : Bool := inB h.base 0 2000 && (inB h.num 0 h.base && (timeOk h.time && ((decide (h.base > 0) || decide (h.time = 0)) && (seenOk h.seen && decide (lastF h.seen = h.base)))))
theorem c_HeadOk' (h : Head) : Pure Tryz.prog 115 [many (headC h)] (bR (headOk h)) := by
 refine pure_intro (N := 41) Tryz.func115 rfl rfl rfl rfl (fun H w => ?_)
 refine sq (rg (evl_e (e_box rfl rfl rfl rfl) (xs rfl rfl (nl (et (sq (ev_drawq [] mo (rk0 0 rfl (q_fieldAddr ttOk rfl) rfl (rk0 1 rfl (q_load ttOk rfl) rfl (rdk_one 2 kr (rdo_call (nm := 5) rfl trivial (cf rfl) (c_between _ _ _) (rs_of rfl) rfl rfl rfl (rk0 3 rfl (q_move rfl) rfl (rdk_part (t := 6) rfl (fun h1 => ?_) (fun h1 => ?_))))))))))))))
 ·refine rkt 4 rfl rfl rfl h1 (q_fieldAddr ttOk rfl) rfl (rkt 5 rfl rfl rfl h1 (q_load ttOk rfl) rfl (rkt 6 rfl rfl rfl h1 (q_fieldAddr ttOk rfl) rfl (rkt 7 rfl rfl rfl h1 (q_load ttOk rfl) rfl (rdk_one 8 kr (rdo_call (nm := 11) rfl ⟨_, _, rfl, rfl, h1⟩ (cf rfl) (c_between _ _ _) (rs_of rfl) rfl rfl rfl (rk0 9 rfl (q_pick_t rfl h1 rfl) rfl (rk0 10 rfl (q_move rfl) rfl (rdk_part (t := 13) rfl (fun h2 => ?_) (fun h2 => ?_)))))))))
  ·refine rkt 11 rfl rfl rfl h2 (q_fieldAddr ttOk rfl) rfl (rkt 12 rfl rfl rfl h2 (q_load ttOk rfl) rfl (rdk_one 13 kr (rdo_call (nm := 16) rfl ⟨_, _, rfl, rfl, h2⟩ (cf rfl) (c_TimeOk' _) (rs_of rfl) rfl rfl rfl (rk0 14 rfl (q_pick_t rfl h2 rfl) rfl (rk0 15 rfl (q_move rfl) rfl (rdk_part (t := 18) rfl (fun h3 => ?_) (fun h3 => ?_)))))))
   ·refine rkt 16 rfl rfl rfl h3 (q_fieldAddr ttOk rfl) rfl (rkt 17 rfl rfl rfl h3 (q_load ttOk rfl) rfl (rkt 18 rfl rfl rfl h3 (q_bin ttOk rfl) rfl (rkt 19 rfl rfl rfl h3 (q_move rfl) rfl (rdk_part (t := 22) rfl (fun h4 => ?_) (fun h4 => ?_)))))
    ·refine rks 20 rfl rfl rfl h4 rfl (rks 21 rfl rfl rfl h4 rfl (rks 22 rfl rfl rfl h4 rfl (rkt 23 rfl rfl rfl h3 (q_pick_t rfl h4 rfl) rfl (rk0 24 rfl (q_pick_t rfl h3 rfl) rfl (rk0 25 rfl (q_move rfl) rfl (rkt 26 rfl rfl rfl rfl (q_fieldAddr ttOk rfl) rfl (rkt 27 rfl rfl rfl rfl (q_load ttOk rfl) rfl (rdk_one 28 kr (rdo_call (nm := 31) rfl ⟨_, _, rfl, rfl, rfl⟩ (cf rfl) (c_SeenOk' _) (rs_of rfl) rfl rfl rfl (rk0 29 rfl (q_pick_t rfl rfl rfl) rfl (rk0 30 rfl (q_move rfl) rfl (rdk_part (t := 33) rfl (fun h5 => ?_) (fun h5 => ?_)))))))))))))
     ·refine rkt 31 rfl rfl rfl h5 (q_fieldAddr ttOk rfl) rfl (rkt 32 rfl rfl rfl h5 (q_load ttOk rfl) rfl (rkt 34 rfl rfl rfl h5 (q_fieldAddr ttOk rfl) rfl (rkt 35 rfl rfl rfl h5 (q_load ttOk rfl) rfl (rdk_one 33 kr (rdo_call (nm := 36) rfl ⟨_, _, rfl, rfl, h5⟩ (cf rfl) (c_lastSeen _) (rs_of rfl) rfl rfl rfl (rkt 36 rfl rfl rfl h5 (q_bin ttOk rfl) rfl (rk0 37 rfl (q_pick_t rfl h5 rfl) rfl (rk0 38 rfl (q_assign rfl) rfl (rdk_endq kr (et (ev_ret (ret_pure' ttOk rfl rfl (congrArg bR (?_ : _ = _))))))))))))))
      simp_all [headOk] <;> (intros; omega)
     ·refine rks 31 rfl rfl rfl h5 rfl (rks 32 rfl rfl rfl h5 rfl (rks 33 rfl rfl rfl h5 rfl (rks 34 rfl rfl rfl h5 rfl (rks 35 rfl rfl rfl h5 rfl (rks 36 rfl rfl rfl h5 rfl (rk0 37 rfl (q_pick_f rfl h5 rfl) rfl (rk0 38 rfl (q_assign rfl) rfl (rdk_endq kr (et (ev_ret (ret_pure' ttOk rfl rfl (congrArg bR (?_ : _ = _)))))))))))))
      simp_all [headOk] <;> (intros; omega)
    ·refine rkt 20 rfl rfl rfl h4 (q_fieldAddr ttOk rfl) rfl (rkt 21 rfl rfl rfl h4 (q_load ttOk rfl) rfl (rkt 22 rfl rfl rfl h4 (q_bin ttOk rfl) rfl (rkt 23 rfl rfl rfl h3 (q_pick_f rfl h4 rfl) rfl (rk0 24 rfl (q_pick_t rfl h3 rfl) rfl (rk0 25 rfl (q_move rfl) rfl (rdk_part (t := 28) rfl (fun h6 => ?_) (fun h6 => ?_)))))))
     ·refine rkt 26 rfl rfl rfl h6 (q_fieldAddr ttOk rfl) rfl (rkt 27 rfl rfl rfl h6 (q_load ttOk rfl) rfl (rdk_one 28 kr (rdo_call (nm := 31) rfl ⟨_, _, rfl, rfl, h6⟩ (cf rfl) (c_SeenOk' _) (rs_of rfl) rfl rfl rfl (rk0 29 rfl (q_pick_t rfl h6 rfl) rfl (rk0 30 rfl (q_move rfl) rfl (rdk_part (t := 33) rfl (fun h7 => ?_) (fun h7 => ?_)))))))
      ·refine rkt 31 rfl rfl rfl h7 (q_fieldAddr ttOk rfl) rfl (rkt 32 rfl rfl rfl h7 (q_load ttOk rfl) rfl (rkt 34 rfl rfl rfl h7 (q_fieldAddr ttOk rfl) rfl (rkt 35 rfl rfl rfl h7 (q_load ttOk rfl) rfl (rdk_one 33 kr (rdo_call (nm := 36) rfl ⟨_, _, rfl, rfl, h7⟩ (cf rfl) (c_lastSeen _) (rs_of rfl) rfl rfl rfl (rkt 36 rfl rfl rfl h7 (q_bin ttOk rfl) rfl (rk0 37 rfl (q_pick_t rfl h7 rfl) rfl (rk0 38 rfl (q_assign rfl) rfl (rdk_endq kr (et (ev_ret (ret_pure' ttOk rfl rfl (congrArg bR (?_ : _ = _))))))))))))))
       simp_all [headOk] <;> (intros; omega)
      ·refine rks 31 rfl rfl rfl h7 rfl (rks 32 rfl rfl rfl h7 rfl (rks 33 rfl rfl rfl h7 rfl (rks 34 rfl rfl rfl h7 rfl (rks 35 rfl rfl rfl h7 rfl (rks 36 rfl rfl rfl h7 rfl (rk0 37 rfl (q_pick_f rfl h7 rfl) rfl (rk0 38 rfl (q_assign rfl) rfl (rdk_endq kr (et (ev_ret (ret_pure' ttOk rfl rfl (congrArg bR (?_ : _ = _)))))))))))))
       simp_all [headOk] <;> (intros; omega)
     ·refine rks 26 rfl rfl rfl h6 rfl (rks 27 rfl rfl rfl h6 rfl (rks 28 rfl rfl rfl h6 rfl (rk0 29 rfl (q_pick_f rfl h6 rfl) rfl (rk0 30 rfl (q_move rfl) rfl (rks 31 rfl rfl rfl rfl rfl (rks 32 rfl rfl rfl rfl rfl (rks 33 rfl rfl rfl rfl rfl (rks 34 rfl rfl rfl rfl rfl (rks 35 rfl rfl rfl rfl rfl (rks 36 rfl rfl rfl rfl rfl (rk0 37 rfl (q_pick_f rfl rfl rfl) rfl (rk0 38 rfl (q_assign rfl) rfl (rdk_endq kr (et (ev_ret (ret_pure' ttOk rfl rfl (congrArg bR (?_ : _ = _))))))))))))))))))
      simp_all [headOk] <;> (intros; omega)
   ·refine rks 16 rfl rfl rfl h3 rfl (rks 17 rfl rfl rfl h3 rfl (rks 18 rfl rfl rfl h3 rfl (rks 19 rfl rfl rfl h3 rfl (rdk_skip 20 rfl kr ⟨_, rfl, .inr rfl⟩ rfl (rdk_skip 21 rfl kr ⟨_, rfl, .inr rfl⟩ rfl (rdk_skip 22 rfl kr ⟨_, rfl, .inr rfl⟩ rfl (rks 23 rfl rfl rfl h3 rfl (rk0 24 rfl (q_pick_f rfl h3 rfl) rfl (rk0 25 rfl (q_move rfl) rfl (rks 26 rfl rfl rfl rfl rfl (rks 27 rfl rfl rfl rfl rfl (rks 28 rfl rfl rfl rfl rfl (rk0 29 rfl (q_pick_f rfl rfl rfl) rfl (rk0 30 rfl (q_move rfl) rfl (rks 31 rfl rfl rfl rfl rfl (rks 32 rfl rfl rfl rfl rfl (rks 33 rfl rfl rfl rfl rfl (rks 34 rfl rfl rfl rfl rfl (rks 35 rfl rfl rfl rfl rfl (rks 36 rfl rfl rfl rfl rfl (rk0 37 rfl (q_pick_f rfl rfl rfl) rfl (rk0 38 rfl (q_assign rfl) rfl (rdk_endq kr (et (ev_ret (ret_pure' ttOk rfl rfl (congrArg bR (?_ : _ = _))))))))))))))))))))))))))))
    simp_all [headOk] <;> (intros; omega)
  ·refine rks 11 rfl rfl rfl h2 rfl (rks 12 rfl rfl rfl h2 rfl (rks 13 rfl rfl rfl h2 rfl (rk0 14 rfl (q_pick_f rfl h2 rfl) rfl (rk0 15 rfl (q_move rfl) rfl (rks 16 rfl rfl rfl rfl rfl (rks 17 rfl rfl rfl rfl rfl (rks 18 rfl rfl rfl rfl rfl (rks 19 rfl rfl rfl rfl rfl (rdk_skip 20 rfl kr ⟨_, rfl, .inr rfl⟩ rfl (rdk_skip 21 rfl kr ⟨_, rfl, .inr rfl⟩ rfl (rdk_skip 22 rfl kr ⟨_, rfl, .inr rfl⟩ rfl (rks 23 rfl rfl rfl rfl rfl (rk0 24 rfl (q_pick_f rfl rfl rfl) rfl (rk0 25 rfl (q_move rfl) rfl (rks 26 rfl rfl rfl rfl rfl (rks 27 rfl rfl rfl rfl rfl (rks 28 rfl rfl rfl rfl rfl (rk0 29 rfl (q_pick_f rfl rfl rfl) rfl (rk0 30 rfl (q_move rfl) rfl (rks 31 rfl rfl rfl rfl rfl (rks 32 rfl rfl rfl rfl rfl (rks 33 rfl rfl rfl rfl rfl (rks 34 rfl rfl rfl rfl rfl (rks 35 rfl rfl rfl rfl rfl (rks 36 rfl rfl rfl rfl rfl (rk0 37 rfl (q_pick_f rfl rfl rfl) rfl (rk0 38 rfl (q_assign rfl) rfl (rdk_endq kr (et (ev_ret (ret_pure' ttOk rfl rfl (congrArg bR (?_ : _ = _)))))))))))))))))))))))))))))))))
   simp_all [headOk] <;> (intros; omega)
 ·refine rks 4 rfl rfl rfl h1 rfl (rks 5 rfl rfl rfl h1 rfl (rks 6 rfl rfl rfl h1 rfl (rks 7 rfl rfl rfl h1 rfl (rks 8 rfl rfl rfl h1 rfl (rk0 9 rfl (q_pick_f rfl h1 rfl) rfl (rk0 10 rfl (q_move rfl) rfl (rks 11 rfl rfl rfl rfl rfl (rks 12 rfl rfl rfl rfl rfl (rks 13 rfl rfl rfl rfl rfl (rk0 14 rfl (q_pick_f rfl rfl rfl) rfl (rk0 15 rfl (q_move rfl) rfl (rks 16 rfl rfl rfl rfl rfl (rks 17 rfl rfl rfl rfl rfl (rks 18 rfl rfl rfl rfl rfl (rks 19 rfl rfl rfl rfl rfl (rdk_skip 20 rfl kr ⟨_, rfl, .inr rfl⟩ rfl (rdk_skip 21 rfl kr ⟨_, rfl, .inr rfl⟩ rfl (rdk_skip 22 rfl kr ⟨_, rfl, .inr rfl⟩ rfl (rks 23 rfl rfl rfl rfl rfl (rk0 24 rfl (q_pick_f rfl rfl rfl) rfl (rk0 25 rfl (q_move rfl) rfl (rks 26 rfl rfl rfl rfl rfl (rks 27 rfl rfl rfl rfl rfl (rks 28 rfl rfl rfl rfl rfl (rk0 29 rfl (q_pick_f rfl rfl rfl) rfl (rk0 30 rfl (q_move rfl) rfl (rks 31 rfl rfl rfl rfl rfl (rks 32 rfl rfl rfl rfl rfl (rks 33 rfl rfl rfl rfl rfl (rks 34 rfl rfl rfl rfl rfl (rks 35 rfl rfl rfl rfl rfl (rks 36 rfl rfl rfl rfl rfl (rk0 37 rfl (q_pick_f rfl rfl rfl) rfl (rk0 38 rfl (q_assign rfl) rfl (rdk_endq kr (et (ev_ret (ret_pure' ttOk rfl rfl (congrArg bR (?_ : _ = _))))))))))))))))))))))))))))))))))))))))
  simp_all [headOk] <;> (intros; omega)
def slotM (l : List Int) (i : Nat) : List Mark := if l.getD (3 + 2 * i) 0 ≠ 0 ∨ l.getD (4 + 2 * i) 0 ≠ 0 then [⟨2 + i, l.getD (3 + 2 * i) 0, l.getD (4 + 2 * i) 0⟩] else []
def seenUp (l : List Int) : Nat → List Mark
 | 0 => []
 | k + 1 => seenUp l k ++ slotM l k
def noHead : Head := ⟨0, 0, 0, []⟩
def headOf (l : List Int) : Head := ⟨l.getD 0 0, l.getD 1 0, l.getD 2 0, seenUp l 4⟩
def rowHeadF (l : List Int) : Option Head := if l.length = 13 ∧ headOk (headOf l) = true ∧ l.getD 11 0 = l.getD 0 0 ∧ l.getD 12 0 = l.getD 0 0 then some (headOf l) else none
theorem getD_at {l : List Int} {k : Nat} (hk : k < l.length) : l.getD k 0 = l[k] := by simp [hk]
theorem slot_some {l : List Int} {k : Nat} (h1 : 3 + 2 * k < l.length) (h2 : 4 + 2 * k < l.length) (h : l[3 + 2 * k] ≠ 0 ∨ l[4 + 2 * k] ≠ 0) : (seenUp l k).map markC ++ [[iC (2 + k), iC l[3 + 2 * k], iC l[4 + 2 * k]]] = (seenUp l (k + 1)).map markC := by
 have : slotM l k = [⟨2 + k, l[3 + 2 * k], l[4 + 2 * k]⟩] := by unfold slotM; rw [getD_at h1, getD_at h2, if_pos h]
 simp [seenUp, this]
theorem slot_none {l : List Int} {k : Nat} (h1 : 3 + 2 * k < l.length) (h2 : 4 + 2 * k < l.length) (h3 : l[3 + 2 * k] = 0) (h4 : l[4 + 2 * k] = 0) : (seenUp l k).map markC = (seenUp l (k + 1)).map markC := by
 have : slotM l k = [] := by unfold slotM; rw [getD_at h1, getD_at h2, if_neg (by simp [h3, h4])]
 simp [seenUp, this]
theorem seenUp_len (l : List Int) : ∀ k, (seenUp l k).length ≤ k
 | 0 => by simp [seenUp]
 | k + 1 => by
  have := seenUp_len l k
  simp only [seenUp, List.length_append, slotM]
  split <;> simp <;> omega
theorem headOf_eq {l : List Int} (h : l.length = 13) : headOf l = ⟨l[0], l[1], l[2], seenUp l 4⟩ := by
 unfold headOf
 rw [getD_at (by omega : 0 < l.length), getD_at (by omega : 1 < l.length), getD_at (by omega : 2 < l.length)]
theorem rh_no1 {l : List Int} (h : l.length ≠ 13) : rowHeadF l = none := if_neg fun hh => h hh.1
theorem rh_no2 {l : List Int} (h : headOk (headOf l) = false) : rowHeadF l = none := if_neg fun hh => by rw [hh.2.1] at h; cases h
theorem rh_no3 {l : List Int} (hl : l.length = 13) (h : l[11] ≠ l[0]) : rowHeadF l = none := if_neg fun hh => h (by have := hh.2.2.1; rwa [getD_at (by omega : 11 < l.length), getD_at (by omega : 0 < l.length)] at this)
theorem rh_no4 {l : List Int} (hl : l.length = 13) (h : l[12] ≠ l[0]) : rowHeadF l = none := if_neg fun hh => h (by have := hh.2.2.2; rwa [getD_at (by omega : 12 < l.length), getD_at (by omega : 0 < l.length)] at this)
theorem rh_yes {l : List Int} (hl : l.length = 13) (h1 : headOk (headOf l) = true) (h2 : l[11] = l[0]) (h3 : l[12] = l[0]) : rowHeadF l = some (headOf l) := if_pos ⟨hl, h1, by rw [getD_at (by omega : 11 < l.length), getD_at (by omega : 0 < l.length), h2], by rw [getD_at (by omega : 12 < l.length), getD_at (by omega : 0 < l.length), h3]⟩
theorem c_RowHead' (l : List Int) : Pure Tryz.prog 226 [one (ints l)] [many' (headR ((rowHeadF l).getD noHead)), one' (RC.v (.bool (rowHeadF l).isSome))] := by
 refine pure_intro (N := 75) Tryz.func226 rfl rfl rfl rfl (fun H w => ?_)
 refine sq (rg (evl_e (e_alloc ttOk rfl rfl rfl rfl) (xs rfl rfl (nl (et (sq (sq (rg (xm rfl rfl (xo (q_len_map ttOk rfl rfl) rfl (xb ttOk rfl rfl (nl (et (ev_cond rfl (fun h1 => ?_) (fun h1 => ?_)))))))))))))))
 ·try have d1 := of_decide_eq_true h1
  refine sq (rg (xo (q_build ttOk rfl) rfl (xst ttOk rfl rfl (xs rfl rfl (nl (et (ev_ret (evr_then (ret_pureN ttOk rfl rfl ?_)))))))))
  rw [rh_no1 om]; simp [RpLe, L2, RcLe, noHead]
 ·try have d1 := of_decide_eq_false h1
  refine ev_skip (et (sq (ev_drawq [11] mo (rk0 0 rfl (q_move rfl) rfl (rk0 1 rfl (q_ix_map (m := 0) ttOk rfl rfl rfl om om) rfl (rk0 2 rfl (q_load ttOk rfl) rfl (rk0 3 rfl (q_move rfl) rfl (rk0 4 rfl (q_ix_map (m := 1) ttOk rfl rfl rfl om om) rfl (rk0 5 rfl (q_load ttOk rfl) rfl (rk0 6 rfl (q_move rfl) rfl (rk0 7 rfl (q_ix_map (m := 2) ttOk rfl rfl rfl om om) rfl (rk0 8 rfl (q_load ttOk rfl) rfl (rk0 9 rfl (q_build ttOk rfl) rfl (rdk_one 10 kr (rdo_new rfl trivial (e_alloc ttOk rfl rfl rfl rfl) (rdk_one 11 kr (rdo_brk rfl rfl trivial (e_store ttOk rfl) (rdb_endq kr (et (sq (sq (ev_adopt (b := 4) 3 101 94 3 rfl rfl rfl rfl rfl (rg (xs rfl rfl (nl (et (ev_blk (ev_loop (fun k : Nat => (⟨[(5, iV k), (0, cV (ints l)), (2, pbV 2 0), (3, bV false), (4, pbV 4 0)], [(4, 49, [.c (iC (l[0]'om)), .c (iC (l[1]'om)), .c (iC (l[2]'om)), .rt 101]), (2, 49, [.c (iC 0), .c (iC 0), .c (iC 0), .c .nil])], [(101, 94, 3, ((seenUp l k).map markC))], []⟩ : St)) (fun k => k ≤ 4) (fun k => 4 - k) 0 [] (by simp) ⟨trf, trf, ⟨⟨_, rfl, by rfl⟩, trivial⟩, tre, rfl⟩ ?_))))))))))))))))))))))))))))
  intro k hp
  have p0 := hp
  show Ev _ _ _ _ (⟨[(5, iV k), (0, cV (ints l)), (2, pbV 2 0), (3, bV false), (4, pbV 4 0)], [(4, 49, [.c (iC (l[0]'om)), .c (iC (l[1]'om)), .c (iC (l[2]'om)), .rt 101]), (2, 49, [.c (iC 0), .c (iC 0), .c (iC 0), .c .nil])], [(101, 94, 3, ((seenUp l k).map markC))], []⟩ : St)
  refine sq (sq (rg (xm rfl rfl (xb ttOk rfl rfl (nl (et (ev_cond rfl (fun h2 => ?_) (fun h2 => ?_))))))))
  ·try have d2 := of_decide_eq_true h2
   refine ev_skip (et (sq (ev_blk (sq (ev_drawq [] mo (rk0 0 rfl (q_move rfl) rfl (rk0 1 rfl (q_move rfl) rfl (rk0 2 rfl (q_ar rfl rfl rfl om) rfl (rk0 3 rfl (q_ar rfl rfl rfl om) rfl (rk0 4 rfl (q_ix_map (m := 3 + 2 * k) ttOk rfl rfl rfl om om) rfl (rk0 5 rfl (q_load ttOk rfl) rfl (rk0 6 rfl (q_move rfl) rfl (rk0 7 rfl (q_move rfl) rfl (rk0 8 rfl (q_ar rfl rfl rfl om) rfl (rk0 9 rfl (q_ar rfl rfl rfl om) rfl (rk0 10 rfl (q_ix_map (m := 4 + 2 * k) ttOk rfl rfl rfl om om) rfl (rk0 11 rfl (q_load ttOk rfl) rfl (rk0 12 rfl (q_assign rfl) rfl (rk0 13 rfl (q_assign rfl) rfl (rdk_endq kr (et (sq (rg (xm rfl rfl (xb ttOk rfl rfl (xm rfl rfl (evl_part rfl rfl (fun h3 => ?_) (fun h3 => ?_))))))))))))))))))))))))))))
   ·try have d3 := of_decide_eq_true h3
    refine gn h3 rfl rfl rfl (gn h3 rfl rfl rfl (xo (q_pick_t rfl h3 rfl) rfl (nl (et (ev_cond_kt rfl rfl ?_)))))
    have hsu := seenUp_len l k
    refine rg (xf ttOk rfl rfl (xl ttOk rfl rfl (xm rfl rfl (xa rfl rfl rfl om rfl (xm rfl rfl (xm rfl rfl (xo (q_build ttOk rfl) rfl (evl_e (e_lit ttOk rfl rfl rfl) (evl_e (e_app ttOk rfl rfl rfl rfl rfl rfl rfl (by first | (simp; done) | (simp; omega)) rfl rfl) (xf ttOk rfl rfl (xst ttOk rfl rfl (nl (eb (et (rg (xm rfl rfl (xa rfl rfl rfl om rfl (xs rfl rfl (nl (eve_round (k + 1) [(101, 52)] ?hp ⟨trf, trf, ⟨⟨_, rfl, by exact slot_some om om (by first | exact .inl ‹_› | exact .inr ‹_›)⟩, trivial⟩, tre, rfl⟩))))))))))))))))))))
    case hp => exact ⟨by omega, by omega⟩
   ·try have d3 := of_decide_eq_false h3
    refine gm h3 rfl rfl rfl rfl (go h3 rfl rfl (q_bin ttOk rfl) rfl (xo (q_pick_f rfl h3 rfl) rfl (nl (et (ev_cond rfl (fun h4 => ?_) (fun h4 => ?_))))))
    ·try have d4 := of_decide_eq_true h4
     have hsu := seenUp_len l k
     refine rg (xf ttOk rfl rfl (xl ttOk rfl rfl (xm rfl rfl (xa rfl rfl rfl om rfl (xm rfl rfl (xm rfl rfl (xo (q_build ttOk rfl) rfl (evl_e (e_lit ttOk rfl rfl rfl) (evl_e (e_app ttOk rfl rfl rfl rfl rfl rfl rfl (by first | (simp; done) | (simp; omega)) rfl rfl) (xf ttOk rfl rfl (xst ttOk rfl rfl (nl (eb (et (rg (xm rfl rfl (xa rfl rfl rfl om rfl (xs rfl rfl (nl (eve_round (k + 1) [(101, 52)] ?hp ⟨trf, trf, ⟨⟨_, rfl, by exact slot_some om om (by first | exact .inl ‹_› | exact .inr ‹_›)⟩, trivial⟩, tre, rfl⟩))))))))))))))))))))
     case hp => exact ⟨by omega, by omega⟩
    ·try have d4 := of_decide_eq_false h4
     refine ev_skip (eb (et (rg (xm rfl rfl (xa rfl rfl rfl om rfl (xs rfl rfl (nl (eve_round (k + 1) [] ?hp ⟨trf, trf, ⟨⟨_, rfl, by exact slot_none om om om om⟩, trivial⟩, tre, rfl⟩))))))))
     case hp => exact ⟨by omega, by omega⟩
  ·try have d2 := of_decide_eq_false h2
   refine ev_exit (evx_then (evx_then (evx_hit (et (sq (sq ?_))))))
   obtain rfl : k = 4 := by omega
   have hl : l.length = 13 := by omega
   have hhd := headOf_eq hl
   refine ev_drawq [] mo (rk0 0 rfl (q_load ttOk rfl) rfl (rdk_one 1 kr (rdo_call (nm := 55) rfl trivial (cf rfl) (c_HeadOk' ⟨_, _, _, _⟩) (rs_of rfl) rfl rfl rfl (rk0 2 rfl (q_not rfl) rfl (rk0 3 rfl (q_move rfl) rfl (rdk_partn (t := 57) rfl (fun h5 => ?_) (fun h5 => ?_)))))))
   ·try have d5 := of_decide_eq_false h5
    refine rdk_skip 4 rfl kr ⟨_, rfl, .inl ⟨_, rfl, (nt h5)⟩⟩ rfl (rdk_skip 5 rfl kr ⟨_, rfl, .inl ⟨_, rfl, (nt h5)⟩⟩ rfl (rdk_skip 6 rfl kr ⟨_, rfl, .inl ⟨_, rfl, (nt h5)⟩⟩ rfl (rdk_skip 7 rfl kr ⟨_, rfl, .inl ⟨_, rfl, (nt h5)⟩⟩ rfl (rdk_skip 8 rfl kr ⟨_, rfl, .inl ⟨_, rfl, (nt h5)⟩⟩ rfl (rdk_skip 9 rfl kr ⟨_, rfl, .inl ⟨_, rfl, (nt h5)⟩⟩ rfl (rk0 10 rfl (q_pick_t rfl (nt h5) rfl) rfl (rk0 11 rfl (q_move rfl) rfl (rks 12 rfl rfl rfl rfl rfl (rks 13 rfl rfl rfl rfl rfl (rks 14 rfl rfl rfl rfl rfl (rks 15 rfl rfl rfl rfl rfl (rks 16 rfl rfl rfl rfl rfl (rks 17 rfl rfl rfl rfl rfl (rk0 18 rfl (q_pick_t rfl rfl rfl) rfl (rdk_endq kr (et (ev_cond_kt rfl rfl (sq (rg (xo (q_build ttOk rfl) rfl (xst ttOk rfl rfl (xs rfl rfl (nl (et (ev_ret (evr_then (ret_pureN ttOk rfl rfl ?_)))))))))))))))))))))))))))
    rw [rh_no2 (by rw [hhd]; assumption)]; simp [RpLe, L2, RcLe, noHead]
   ·try have d5 := of_decide_eq_true h5
    refine rdk_take 4 rfl kr ⟨_, _, rfl, rfl, (nf h5)⟩ (q_move rfl) rfl (rdk_take 5 rfl kr ⟨_, _, rfl, rfl, (nf h5)⟩ (q_ix_map (m := 11) ttOk rfl rfl rfl om om) rfl (rdk_take 6 rfl kr ⟨_, _, rfl, rfl, (nf h5)⟩ (q_load ttOk rfl) rfl (rdk_take 7 rfl kr ⟨_, _, rfl, rfl, (nf h5)⟩ (q_fieldAddr ttOk rfl) rfl (rdk_take 8 rfl kr ⟨_, _, rfl, rfl, (nf h5)⟩ (q_load ttOk rfl) rfl (rdk_take 9 rfl kr ⟨_, _, rfl, rfl, (nf h5)⟩ (q_bin ttOk rfl) rfl (rk0 10 rfl (q_pick_f rfl (nf h5) rfl) rfl (rk0 11 rfl (q_move rfl) rfl (rdk_part (t := 65) rfl (fun h6 => ?_) (fun h6 => ?_)))))))))
    ·try have d6 := of_decide_eq_true h6
     refine rks 12 rfl rfl rfl h6 rfl (rks 13 rfl rfl rfl h6 rfl (rks 14 rfl rfl rfl h6 rfl (rks 15 rfl rfl rfl h6 rfl (rks 16 rfl rfl rfl h6 rfl (rks 17 rfl rfl rfl h6 rfl (rk0 18 rfl (q_pick_t rfl h6 rfl) rfl (rdk_endq kr (et (ev_cond_kt rfl rfl (sq (rg (xo (q_build ttOk rfl) rfl (xst ttOk rfl rfl (xs rfl rfl (nl (et (ev_ret (evr_then (ret_pureN ttOk rfl rfl ?_)))))))))))))))))))
     rw [rh_no3 hl ‹_›]; simp [RpLe, L2, RcLe, noHead]
    ·try have d6 := of_decide_eq_false h6
     refine rkt 12 rfl rfl rfl h6 (q_move rfl) rfl (rkt 13 rfl rfl rfl h6 (q_ix_map (m := 12) ttOk rfl rfl rfl om om) rfl (rkt 14 rfl rfl rfl h6 (q_load ttOk rfl) rfl (rkt 15 rfl rfl rfl h6 (q_fieldAddr ttOk rfl) rfl (rkt 16 rfl rfl rfl h6 (q_load ttOk rfl) rfl (rkt 17 rfl rfl rfl h6 (q_bin ttOk rfl) rfl (rk0 18 rfl (q_pick_f rfl h6 rfl) rfl (rdk_endq kr (et (ev_cond rfl (fun h7 => ?_) (fun h7 => ?_))))))))))
     ·try have d7 := of_decide_eq_true h7
      refine sq (rg (xo (q_build ttOk rfl) rfl (xst ttOk rfl rfl (xs rfl rfl (nl (et (ev_ret (evr_then (ret_pureN ttOk rfl rfl ?_)))))))))
      rw [rh_no4 hl ‹_›]; simp [RpLe, L2, RcLe, noHead]
     ·try have d7 := of_decide_eq_false h7
      refine ev_skip (et (sq (rg (xl ttOk rfl rfl (xst ttOk rfl rfl (xs rfl rfl (nl (et (ev_ret (ret_pure' ttOk rfl rfl ?_))))))))))
      rw [rh_yes hl (by rw [hhd]; assumption) om om, hhd]; rfl
theorem rs_sub {S : St} {x : Operand} {r n k j ty : Nat} {l : List (List C)} {cs : List C} {y : C} (hx : opv S.T x = some (.p false [.sub r n k j])) (hr : lk S.R r = some (ty, n, l)) (hk : l[k]? = some cs) (hj : cs[j]? = some y) : RsA S [x] [(false, [y])] := ⟨⟨_, hx, ⟨ty, l, cs, hr, hk, hj⟩, trivial⟩, trivial⟩
theorem get_map {α β : Type} {f : α → β} {L : List α} {k : Nat} (hk : k < L.length) : (L.map f)[k]? = some (f L[k]) := by rw [List.getElem?_map, List.getElem?_eq_getElem hk]; rfl
def headStep (x : Int) (acc : Head × Bool) (row : List Int) : Head × Bool := if (rowHeadF row).isSome = true ∧ ((rowHeadF row).getD noHead).num % 2 = x ∧ (acc.2 = false ∨ ((rowHeadF row).getD noHead).num > acc.1.num) then ((rowHeadF row).getD noHead, true) else acc
def headUp (t : Two) : Nat → Head × Bool
 | 0 => (noHead, false)
 | k + 1 => (rightF t k).foldl (headStep k) (headUp t k)
def headIn (t : Two) : Head × Bool := if keptOk t then headUp t 2 else (noHead, false)
theorem rowHead_nn {l : List Int} (h : (rowHeadF l).isSome = true) : 0 ≤ ((rowHeadF l).getD noHead).num := by
 unfold rowHeadF at *
 split at h
 ·rename_i hh
  rw [if_pos hh]
  have := hh.2.1
  simp only [headOk, inB, Bool.and_eq_true, decide_eq_true_eq] at this
  exact this.2.1.1
 ·cases h
theorem rightF_len (t : Two) (x : Int) : (rightF t x).length ≤ 2 := by
 unfold rightF rightOf
 split
 ·cases uns (readF t.a x) <;> cases uns (readF t.b x) <;> simp
  split <;> simp
 ·simp
theorem fold_next {α β : Type} {f : α → β → α} {a : α} {l : List β} {j : Nat} {s s' : α} (hj : j < l.length) (h : s = (l.take j).foldl f a) (h2 : s' = f s l[j]) : s' = (l.take (j + 1)).foldl f a := by
 rw [List.take_succ_eq_append_getElem hj, List.foldl_append, ← h, h2]; rfl
theorem fold_all {α β : Type} {f : α → β → α} {a : α} {l : List β} {j : Nat} {s : α} (hj : ¬ j < l.length) (h : s = (l.take j).foldl f a) : s = l.foldl f a := by rw [h, List.take_of_length_le om]
theorem c_HeadIn' (t : Two) : Pure Tryz.prog 181 [many (twoC t)] [many' (headR (headIn t).1), one' (RC.v (.bool (headIn t).2))] := by
 refine pure_intro (N := 56) Tryz.func181 rfl rfl rfl rfl (fun H w => ?_)
 refine sq (rg (evl_e (e_box rfl rfl rfl rfl) (evl_e (e_alloc ttOk rfl rfl rfl rfl) (xs rfl rfl (nl (et (sq (sq (rg ?_)))))))))
 first | refine xo (q_load_pr ttOk rfl rfl rfl rfl (get_map om) rfl rfl) rfl ?_ | refine xl ttOk rfl rfl ?_
 refine evl_call (nm := 12) (cf rfl) (c_KeptOk' ⟨⟨_, _⟩, ⟨_, _⟩⟩) (rs_of rfl) rfl rfl rfl (xo (q_not rfl) rfl (nl (et (ev_cond_n rfl (fun h1 => ?_) (fun h1 => ?_)))))
 ·try have d1 := of_decide_eq_false h1
  try have hnn := rowHead_nn h1
  refine sq (rg (xo (q_build ttOk rfl) rfl (xst ttOk rfl rfl (xs rfl rfl (nl (et (ev_ret (evr_then (ret_pureN ttOk rfl rfl ?_)))))))))
  rw [show headIn t = (noHead, false) by simp [headIn, show keptOk t = false from h1]]; simp [RpLe, L2, RcLe, noHead]
 ·try have d1 := of_decide_eq_true h1
  try have hnn := rowHead_nn h1
  refine ev_skip (et (sq (rg (xo (q_build ttOk rfl) rfl (evl_e (e_alloc ttOk rfl rfl rfl rfl) (xst ttOk rfl rfl (xs rfl rfl (nl (et (sq (sq (ev_adopt (b := 4) 3 101 94 3 rfl rfl rfl rfl rfl (rg (xs rfl rfl (nl (et (ev_blk (ev_loop (fun i : Nat × Head × Bool => (⟨[(6, iV i.1), (1, pbV 1 0), (2, pbV 2 0), (3, bV false), (4, pbV 4 0), (5, bV i.2.2)], [(4, 49, [.c (iC i.2.1.num), .c (iC i.2.1.base), .c (iC i.2.1.time), .rt 101]), (2, 49, [.c (iC 0), .c (iC 0), .c (iC 0), .c .nil]), (1, 46, [.c (rows t.a.kept), .c (writes t.a.wait), .c (rows t.b.kept), .c (writes t.b.wait)])], [(101, 94, 3, (i.2.1.seen.map markC))], []⟩ : St)) (fun i => i.1 ≤ 2 ∧ (i.2.1, i.2.2) = headUp t i.1) (fun i => 2 - i.1) (0, noHead, false) [] (⟨by simp, rfl⟩) ⟨trf, trf, ⟨⟨_, rfl, by rfl⟩, trivial⟩, tre, rfl⟩ ?_))))))))))))))))))
  intro i hp
  obtain ⟨k, best, fd⟩ := i
  have hp : k ≤ 2 ∧ (best, fd) = headUp t k := hp
  obtain ⟨p0, p1⟩ := hp
  show Ev _ _ _ _ (⟨[(6, iV k), (1, pbV 1 0), (2, pbV 2 0), (3, bV false), (4, pbV 4 0), (5, bV fd)], [(4, 49, [.c (iC best.num), .c (iC best.base), .c (iC best.time), .rt 101]), (2, 49, [.c (iC 0), .c (iC 0), .c (iC 0), .c .nil]), (1, 46, [.c (rows t.a.kept), .c (writes t.a.wait), .c (rows t.b.kept), .c (writes t.b.wait)])], [(101, 94, 3, (best.seen.map markC))], []⟩ : St)
  refine sq (sq (rg (xm rfl rfl (xb ttOk rfl rfl (nl (et (ev_cond rfl (fun h2 => ?_) (fun h2 => ?_))))))))
  ·try have d2 := of_decide_eq_true h2
   try have hnn := rowHead_nn h2
   refine ev_skip (et (sq (ev_blk (sq ?_))))
   have hrl := rightF_len t k
   refine rg ?_
   first | refine xo (q_load_pr ttOk rfl rfl rfl rfl (get_map om) rfl rfl) rfl ?_ | refine xl ttOk rfl rfl ?_
   refine xm rfl rfl (evl_call (nm := 22) (cf rfl) (c_RightAt' t _) (rs_of rfl) rfl rfl rfl (xo (q_len_rtm ttOk rfl rfl rfl) rfl (xm rfl rfl (nl (et (ev_blk (ev_loop (fun i : Nat × Head × Bool => (⟨[(24, iV i.1), (22, .p false [.rt 102]), (23, iV (rightF t k).length), (6, iV k), (1, pbV 1 0), (2, pbV 2 0), (3, bV false), (4, pbV 4 0), (5, bV i.2.2)], [(4, 49, [.c (iC i.2.1.num), .c (iC i.2.1.base), .c (iC i.2.1.time), .rt 101]), (2, 49, [.c (iC 0), .c (iC 0), .c (iC 0), .c .nil]), (1, 46, [.c (rows t.a.kept), .c (writes t.a.wait), .c (rows t.b.kept), .c (writes t.b.wait)])], [(101, 94, 3, (i.2.1.seen.map markC)), (102, 74, 1, ((rightF t k).map fun r => [ints r]))], []⟩ : St)) (fun i => i.1 ≤ (rightF t k).length ∧ (i.2.1, i.2.2) = ((rightF t k).take i.1).foldl (headStep k) (best, fd)) (fun i => (rightF t k).length - i.1) (0, best, fd) [(102, 22)] (⟨by simp, rfl⟩) ⟨trf, trf, ⟨⟨_, rfl, by rfl⟩, ⟨_, rfl, by rfl⟩, trivial⟩, tre, rfl⟩ ?_)))))))
   intro i hp
   obtain ⟨j, b2, f2⟩ := i
   have hp : j ≤ (rightF t k).length ∧ (b2, f2) = ((rightF t k).take j).foldl (headStep k) (best, fd) := hp
   obtain ⟨q0, q1⟩ := hp
   show Ev _ _ _ _ (⟨[(24, iV j), (22, .p false [.rt 102]), (23, iV (rightF t k).length), (6, iV k), (1, pbV 1 0), (2, pbV 2 0), (3, bV false), (4, pbV 4 0), (5, bV f2)], [(4, 49, [.c (iC b2.num), .c (iC b2.base), .c (iC b2.time), .rt 101]), (2, 49, [.c (iC 0), .c (iC 0), .c (iC 0), .c .nil]), (1, 46, [.c (rows t.a.kept), .c (writes t.a.wait), .c (rows t.b.kept), .c (writes t.b.wait)])], [(101, 94, 3, (b2.seen.map markC)), (102, 74, 1, ((rightF t k).map fun r => [ints r]))], []⟩ : St)
   refine sq (rg (xb ttOk rfl rfl (nl (et (sq (ev_cond rfl (fun h3 => ?_) (fun h3 => ?_)))))))
   ·try have d3 := of_decide_eq_true h3
    try have hnn := rowHead_nn h3
    refine ev_skip (et (sq (ev_blk (sq (rg (xo (q_ix_rt (m := j) ttOk rfl rfl rfl rfl rfl rfl (by simp; omega)) rfl ?_))))))
    first | refine xo (q_load_pr ttOk rfl rfl rfl rfl (get_map om) rfl rfl) rfl ?_ | refine xl ttOk rfl rfl ?_
    refine xs rfl rfl (nl (et (sq (rg (xm rfl rfl (evl_call (nm := 30) (cf rfl) (c_RowHead' _) (rs_sub rfl rfl (get_map om) rfl) rfl rfl rfl (xm rfl rfl (xo (q_ext rfl) rfl (xo (q_ext rfl) rfl (evl_e (e_alloc ttOk rfl rfl rfl rfl) (xst ttOk rfl rfl (xs rfl rfl (nl (et (sq (rg (xm rfl rfl (xm rfl rfl (evl_part rfl rfl (fun h4 => ?_) (fun h4 => ?_))))))))))))))))))))
    ·try have d4 := of_decide_eq_true h4
     try have hnn := rowHead_nn h4
     refine go h4 rfl rfl (q_fieldAddr ttOk rfl) rfl ?_
     first | refine go h4 rfl rfl (q_load_pr ttOk rfl rfl rfl rfl (get_map om) rfl rfl) rfl ?_ | refine go h4 rfl rfl (q_load ttOk rfl) rfl ?_
     first | refine go h4 rfl rfl (q_rem_pos rfl rfl om) rfl ?_ | refine go h4 rfl rfl (q_rem rfl rfl om) rfl ?_
     refine gm h4 rfl rfl rfl rfl (go h4 rfl rfl (q_bin ttOk rfl) rfl (xo (q_pick_t rfl h4 rfl) rfl (xm rfl rfl (evl_part rfl rfl (fun h5 => ?_) (fun h5 => ?_)))))
     ·try have d5 := of_decide_eq_true h5
      try have hnn := rowHead_nn h5
      refine gm h5 rfl rfl rfl rfl (go h5 rfl rfl (q_not rfl) rfl (gm h5 rfl rfl rfl rfl (evl_partn rfl rfl (fun h6 => ?_) (fun h6 => ?_))))
      ·try have d6 := of_decide_eq_false h6
       try have hnn := rowHead_nn h6
       refine gn (nt h6) rfl rfl rfl (gn (nt h6) rfl rfl rfl (gn (nt h6) rfl rfl rfl (gn (nt h6) rfl rfl rfl (gn (nt h6) rfl rfl rfl (go h5 rfl rfl (q_pick_t rfl (nt h6) rfl) rfl (xo (q_pick_t rfl h5 rfl) rfl (nl (et (ev_cond_kt rfl rfl (rg ?_))))))))))
       first | refine xo (q_load_pr ttOk rfl rfl rfl rfl (get_map om) rfl rfl) rfl ?_ | refine xl ttOk rfl rfl ?_
       refine xst ttOk rfl rfl (xs rfl rfl (nl (eb (et (rg (xa rfl rfl rfl om rfl (xm rfl rfl (nl (eve_round (j + 1, (rowHeadF (rightF t k)[j]).getD noHead, true) [(101, 30)] ?hp ⟨trf, trf, ⟨⟨_, rfl, rfl⟩, ⟨_, rfl, rfl⟩, trivial⟩, tre, rfl⟩)))))))))
       case hp => exact ⟨⟨by omega, fold_next om q1 (by simp_all [headStep] <;> (intros; omega))⟩, by omega⟩
      ·try have d6 := of_decide_eq_true h6
       try have hnn := rowHead_nn h6
       refine go (nf h6) rfl rfl (q_fieldAddr ttOk rfl) rfl ?_
       first | refine go (nf h6) rfl rfl (q_load_pr ttOk rfl rfl rfl rfl (get_map om) rfl rfl) rfl ?_ | refine go (nf h6) rfl rfl (q_load ttOk rfl) rfl ?_
       refine go (nf h6) rfl rfl (q_fieldAddr ttOk rfl) rfl ?_
       first | refine go (nf h6) rfl rfl (q_load_pr ttOk rfl rfl rfl rfl (get_map om) rfl rfl) rfl ?_ | refine go (nf h6) rfl rfl (q_load ttOk rfl) rfl ?_
       refine go (nf h6) rfl rfl (q_bin ttOk rfl) rfl (go h5 rfl rfl (q_pick_f rfl (nf h6) rfl) rfl (xo (q_pick_t rfl h5 rfl) rfl (nl (et (ev_cond rfl (fun h7 => ?_) (fun h7 => ?_))))))
       ·try have d7 := of_decide_eq_true h7
        try have hnn := rowHead_nn h7
        refine rg ?_
        first | refine xo (q_load_pr ttOk rfl rfl rfl rfl (get_map om) rfl rfl) rfl ?_ | refine xl ttOk rfl rfl ?_
        refine xst ttOk rfl rfl (xs rfl rfl (nl (eb (et (rg (xa rfl rfl rfl om rfl (xm rfl rfl (nl (eve_round (j + 1, (rowHeadF (rightF t k)[j]).getD noHead, true) [(101, 30)] ?hp ⟨trf, trf, ⟨⟨_, rfl, rfl⟩, ⟨_, rfl, rfl⟩, trivial⟩, tre, rfl⟩)))))))))
        case hp => exact ⟨⟨by omega, fold_next om q1 (by simp_all [headStep] <;> (intros; omega))⟩, by omega⟩
       ·try have d7 := of_decide_eq_false h7
        try have hnn := rowHead_nn h7
        refine ev_skip (eb (et (rg (xa rfl rfl rfl om rfl (xm rfl rfl (nl (eve_round (j + 1, b2, f2) [] ?hp ⟨trf, trf, ⟨⟨_, rfl, rfl⟩, ⟨_, rfl, rfl⟩, trivial⟩, tre, rfl⟩)))))))
        case hp => exact ⟨⟨by omega, fold_next om q1 (by simp_all [headStep] <;> (intros; omega))⟩, by omega⟩
     ·try have d5 := of_decide_eq_false h5
      try have hnn := rowHead_nn h5
      refine gn h5 rfl rfl rfl (gn h5 rfl rfl rfl (gn h5 rfl rfl rfl (gu rfl rfl rfl (gu rfl rfl rfl (gu rfl rfl rfl (gu rfl rfl rfl (gu rfl rfl rfl (gn h5 rfl rfl rfl (xo (q_pick_f rfl h5 rfl) rfl (nl (et (ev_cond_kf rfl rfl (ev_skip (eb (et (rg (xa rfl rfl rfl om rfl (xm rfl rfl (nl (eve_round (j + 1, b2, f2) [] ?hp ⟨trf, trf, ⟨⟨_, rfl, rfl⟩, ⟨_, rfl, rfl⟩, trivial⟩, tre, rfl⟩))))))))))))))))))))
      case hp => exact ⟨⟨by omega, fold_next om q1 (by simp_all [headStep] <;> (intros; omega))⟩, by omega⟩
    ·try have d4 := of_decide_eq_false h4
     try have hnn := rowHead_nn h4
     refine gn h4 rfl rfl rfl (gn h4 rfl rfl rfl (gn h4 rfl rfl rfl (gn h4 rfl rfl rfl (gn h4 rfl rfl rfl (xo (q_pick_f rfl h4 rfl) rfl (xm rfl rfl (gn rfl rfl rfl rfl (gn rfl rfl rfl rfl (gn rfl rfl rfl rfl (gu rfl rfl rfl (gu rfl rfl rfl (gu rfl rfl rfl (gu rfl rfl rfl (gu rfl rfl rfl (gn rfl rfl rfl rfl (xo (q_pick_f rfl rfl rfl) rfl (nl (et (ev_cond_kf rfl rfl (ev_skip (eb (et (rg (xa rfl rfl rfl om rfl (xm rfl rfl (nl (eve_round (j + 1, b2, f2) [] ?hp ⟨trf, trf, ⟨⟨_, rfl, rfl⟩, ⟨_, rfl, rfl⟩, trivial⟩, tre, rfl⟩)))))))))))))))))))))))))))
     case hp => exact ⟨⟨by omega, fold_next om q1 (by simp_all [headStep] <;> (intros; omega))⟩, by omega⟩
   ·try have d3 := of_decide_eq_false h3
    try have hnn := rowHead_nn h3
    refine ev_exit (evx_then (evx_then (evx_hit (eb (et (rg (xm rfl rfl (xa rfl rfl rfl om rfl (xs rfl rfl (nl (eve_round (k + 1, _, _) [] ?hp ⟨trf, trf, ⟨⟨_, rfl, by rfl⟩, trivial⟩, tre, rfl⟩)))))))))))
    case hp => exact ⟨⟨by omega, (fold_all om q1).trans (show List.foldl _ (best, fd) _ = (rightF t k).foldl (headStep k) (headUp t k) by rw [p1])⟩, by omega⟩
  ·try have d2 := of_decide_eq_false h2
   try have hnn := rowHead_nn h2
   refine ev_exit (evx_then (evx_then (evx_hit (et (sq (rg ?_))))))
   first | refine xo (q_load_pr ttOk rfl rfl rfl rfl (get_map om) rfl rfl) rfl ?_ | refine xl ttOk rfl rfl ?_
   refine xm rfl rfl (xst ttOk rfl rfl (xs rfl rfl (nl (et (ev_ret (ret_pure' ttOk rfl rfl ?_))))))
   obtain rfl : k = 2 := by omega
   rw [show headIn t = (best, fd) by rw [p1]; simp [headIn, show keptOk t = true from h1]]
def sumN {α : Type} (f : α → Nat) (l : List α) : Nat := (l.map f).sum
def g1 (q : Int) (i : Nat) : List C := [iC (q + i)]
def g3 (q : Int) (i : Nat) : List C := [iC (q + (3 * i : Nat)), iC (q + (3 * i : Nat) + 1), iC (q + (3 * i : Nat) + 1 + 1)]
def g4 (q : Int) (i : Nat) : List C := [iC (q + (4 * i : Nat)), iC (q + (4 * i : Nat) + 1), iC (q + (4 * i : Nat) + 1 + 1), iC (q + (4 * i : Nat) + 1 + 1 + 1)]
def g9 (q : Int) (i : Nat) : List C := [iC (q + (9 * i : Nat)), iC (q + (9 * i : Nat) + 1), iC (q + (9 * i : Nat) + 1 + 1), iC (q + (9 * i : Nat) + 1 + 1 + 1), iC (q + (9 * i : Nat) + 1 + 1 + 1 + 1), iC (q + (9 * i : Nat) + 1 + 1 + 1 + 1 + 1), iC (q + (9 * i : Nat) + 1 + 1 + 1 + 1 + 1 + 1), iC (q + (9 * i : Nat) + 1 + 1 + 1 + 1 + 1 + 1 + 1), iC (q + (9 * i : Nat) + 1 + 1 + 1 + 1 + 1 + 1 + 1 + 1)]
@[reducible] def mk1 (q : Int) (n : Nat) : List (List C) := (List.range n).map (g1 q)
@[reducible] def mk3 (q : Int) (n : Nat) : List (List C) := (List.range n).map (g3 q)
@[reducible] def mk4 (q : Int) (n : Nat) : List (List C) := (List.range n).map (g4 q)
@[reducible] def mk9 (q : Int) (n : Nat) : List (List C) := (List.range n).map (g9 q)
def lenS (x : Int × List Int) : Nat := 1 + x.2.length
def gR (q : Int) (K : List (List Int)) (i : Nat) : List C := [.s 1 (mk1 (q + sumN List.length (K.take i)) (K.getD i []).length)]
def gW (q : Int) (W : List (Int × List Int)) (i : Nat) : List C := [iC (q + sumN lenS (W.take i)), .s 1 (mk1 (q + sumN lenS (W.take i) + 1) (W.getD i (0, [])).2.length)]
@[reducible] def mkRows (q : Int) (K : List (List Int)) : List (List C) := (List.range K.length).map (gR q K)
@[reducible] def mkWrites (q : Int) (W : List (Int × List Int)) : List (List C) := (List.range W.length).map (gW q W)
theorem getD_len {K : List (List Int)} {k : Nat} (hk : k < K.length) : K.getD k [] = K[k] := by simp [hk]
theorem getD_lenW {K : List (Int × List Int)} {k : Nat} (hk : k < K.length) : K.getD k (0, []) = K[k] := by simp [hk]
def mkN (d : Disk) : Nat := sumN List.length d.kept + sumN lenS d.wait
structure Book where
 base : Int
 time : Int
 entries : List Entry
structure LogN where
 two : Two
 head : Head
 next : Head
 more : Bool
 book : Book
 seen : List Mark
 durable : Int
 owe : List Ack
@[reducible] def bookC (x : Book) : List C := [iC x.base, iC x.time, entries x.entries]
@[reducible] def logC (n : LogN) : List C := [rows n.two.a.kept, writes n.two.a.wait, rows n.two.b.kept, writes n.two.b.wait, iC n.head.num, iC n.head.base, iC n.head.time, marks n.head.seen, iC n.next.num, iC n.next.base, iC n.next.time, marks n.next.seen, bC n.more, iC n.book.base, iC n.book.time, entries n.book.entries, marks n.seen, iC n.durable, acks n.owe]
@[reducible] def entriesR (l : List Entry) : RC := .s 80 9 (l.map entryC)
@[reducible] def acksR (l : List Ack) : RC := .s 83 4 (l.map ackC)
@[reducible] def bookR (x : Book) : List RC := [.v (.int .i64 x.base), .v (.int .i64 x.time), entriesR x.entries]
@[reducible] def logR (n : LogN) : List RC := [rowsR n.two.a.kept, writesR n.two.a.wait, rowsR n.two.b.kept, writesR n.two.b.wait, .v (.int .i64 n.head.num), .v (.int .i64 n.head.base), .v (.int .i64 n.head.time), marksR n.head.seen, .v (.int .i64 n.next.num), .v (.int .i64 n.next.base), .v (.int .i64 n.next.time), marksR n.next.seen, .v (.bool n.more),
 .v (.int .i64 n.book.base), .v (.int .i64 n.book.time), entriesR n.book.entries, marksR n.seen, .v (.int .i64 n.durable), acksR n.owe]
end Go.Proofs.YtinmcdcmidlgpaaGreatDoor
