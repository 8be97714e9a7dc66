/- Walks of functions of the program, printed by a program of the prover. -/
import Derived.Test.YtinmcdcmidlgpaaGreatDoorTmF66
import Derived.Test.YtinmcdcmidlgpaaGreatDoorTmF57
import Derived.Test.YtinmcdcmidlgpaaGreatDoorTmF61
import Derived.Test.YtinmcdcmidlgpaaGreatDoorTmF48
import Derived.Test.YtinmcdcmidlgpaaGreatDoorTmF46
import Derived.Test.YtinmcdcmidlgpaaGreatDoorTmF24
import Derived.Test.YtinmcdcmidlgpaaGreatDoorTmVL
namespace Go.Proofs.YtinmcdcmidlgpaaGreatDoor
open Go.ChangeShapes Go.WideShapes Go.ChangeAt Go.RowKit
set_option linter.unusedVariables false
set_option linter.unusedSimpArgs false
set_option maxHeartbeats 1000000
set_option maxRecDepth 100000
attribute [local irreducible] EvL Ev EvE Quiet Eff Pure RDk RDb RDo
theorem c_RisenLog1 (n : LogN) : Pure Tryz.prog 33 [many (logC n)] [many' (logR ((risenF n.two).1)), one' (RC.v (.bool ((risenF n.two).2)))] := by
 refine pure_intro (N := 36) Tryz.func33 rfl rfl rfl rfl (fun H w => ?_)
 have c1 := c_Recovered' n.two
 have hr1 := rec_head (t := n.two)
 have hri1 := ri_no (t := n.two)
 have hri2 := ri_yes (t := n.two)
 have hrs := rec_small n.two
 generalize recF n.two = rr at c1 hr1 hri1 hri2 hrs
 refine sq (rg (evl_e (e_box rfl rfl rfl rfl) (evl_e (e_alloc ttOk rfl rfl rfl rfl) (xs rfl rfl (nl (et (sq (rg (xf ttOk rfl rfl (xl ttOk rfl rfl (evl_call (nm := 13) (cf rfl) c1 (rs_of rfl) rfl rfl rfl (xm rfl rfl (xo (q_ext rfl) rfl (xo (q_ext rfl) rfl (xo (q_ext rfl) rfl (xo (q_ext rfl) rfl (evl_e (e_alloc ttOk rfl rfl rfl rfl) (evl_e (e_alloc ttOk rfl rfl rfl rfl) (evl_e (e_alloc ttOk rfl rfl rfl rfl) (xst ttOk rfl rfl (xst ttOk rfl rfl (xst ttOk rfl rfl (xs rfl rfl (nl (et (sq (sq (rg (xm rfl rfl (xo (q_not rfl) rfl (nl (et (ev_cond_n rfl (fun h1 => ?_) (fun h1 => ?_))))))))))))))))))))))))))))))))))
 ·refine sq (rg (xo (q_build ttOk rfl) rfl (xst ttOk rfl rfl (xs rfl rfl (nl (et (ev_ret (evr_then (ret_pureN ttOk rfl rfl ?_)))))))))
  first
  | (rw [hri1 ‹_›]; simp [RpLe, L2, RcLe, zeroL, zeroD, zeroT, noHead]; done)
  | (rw [hri2 ‹_›]; simp [RpLe, L2, RcLe, noHead]; done)
 ·refine ev_skip (et (sq (rg (xf ttOk rfl rfl (xl ttOk rfl rfl (xf ttOk rfl rfl (xl ttOk rfl rfl (evl_call (nm := 26) (cf rfl) (c_SeenOver' rr.2.1.seen rr.2.2.1.entries) (rs_of rfl) rfl rfl rfl (xm rfl rfl (xo (q_ext rfl) rfl (xo (q_ext rfl) rfl (xs rfl rfl (xs rfl rfl (nl (et (sq (ev_drawq [7] mo (rk0 0 rfl (q_load ttOk rfl) rfl (rk0 1 rfl (q_load ttOk rfl) rfl (rk0 2 rfl (q_load ttOk rfl) rfl (rk0 3 rfl (q_move rfl) rfl (rk0 4 rfl (q_load ttOk rfl) rfl (rdk_one 5 kr (rdo_call (nm := 34) rfl trivial (cf rfl) (c_lastOf rr.2.2.1 (hr1 ‹_›).2.1) (rs_of rfl) rfl rfl rfl (rk0 6 rfl (q_build ttOk rfl) rfl (rdk_one 7 kr (rdo_brk rfl rfl trivial (e_store ttOk rfl) (rdb_q 8 rfl kr trivial (q_assign rfl) rfl (rdb_endq kr (et (ev_ret (ret_pureN ttOk rfl rfl ?_))))))))))))))))))))))))))))))))
  first
  | (rw [hri1 ‹_›]; simp [RpLe, L2, RcLe, zeroL, zeroD, zeroT, noHead]; done)
  | (rw [hri2 ‹_›]; simp [RpLe, L2, RcLe, noHead]; done)
theorem Lg.ask1 {n : LogN} {k : Nat} (h : Lg k n) {a : Ask} {now : Int} (ha : askOkF a = true) (hn : 0 ≤ now ∧ now < 1000) (hk : k < 19) : logOkF n = true → askOkF a = true → timeOk now = true → a.seq > (findM n.seen a.client).seq → takesA n (entA n a now) = true :=
 fun _ _ h2 _ => h.takes ha h2 om (by have := h.len; have := h.last; omega)
theorem time_small {now : Int} (hn : 0 ≤ now ∧ now < 1000) : timeOk now = true := inB_iff.2 ⟨by omega, by omega⟩
theorem Lg.ask2 {n : LogN} {k : Nat} (h : Lg k n) {a : Ask} {now : Int} (ha : askOkF a = true) (hn : 0 ≤ now ∧ now < 1000) (hk : k < 19) (hq : a.seq ≤ 10 + k) : Lg (k + 1) (askedF n a now).1 := h.ask ha (time_small hn) om (by have := h.len; have := h.last; omega) hq
theorem Lg.bd {n : LogN} {k : Nat} (h : Lg k n) : 0 ≤ n.head.base ∧ n.head.base ≤ 2000 := (head_nums h.j.parts.2.1).2.1
theorem c_w9Log (m : Nat) (hm : m ≤ 18) : Rolls Tryz.prog 135 37 [one (iC m)] (α := LogN) (fun n => Lg m n) (fun n => [many' (logR n)]) := by
 refine rolls_intro (N := 64) Tryz.func37 rfl rfl rfl rfl (fun H w g v0 bn δ0 hsrc => ?_)
 refine sq (rg (evl_e (e_alloc ttOk rfl rfl rfl rfl) (nl (et (sq (rg (evl_call (nm := 6) (cf rfl) c_NewLog' (rs_of rfl) rfl rfl rfl (evl_e (e_alloc ttOk rfl rfl rfl rfl) (xst ttOk rfl rfl (nl (et (sq (ev_blk (ev_loop (fun i : Nat × Int × LogN × DS bn => (⟨[(0, pbV 0 0), (1, iV i.2.1), (4, pbV 4 0), (5, pbV 5 0)], [(5, 55, [.rt 101, .rt 102, .rt 103, .rt 104, .c (iC i.2.2.1.head.num), .c (iC i.2.2.1.head.base), .c (iC i.2.2.1.head.time), .rt 105, .c (iC i.2.2.1.next.num), .c (iC i.2.2.1.next.base), .c (iC i.2.2.1.next.time), .rt 106, .c (bC i.2.2.1.more), .c (iC i.2.2.1.book.base), .c (iC i.2.2.1.book.time), .rt 107, .rt 108, .c (iC i.2.2.1.durable), .rt 109]), (4, 55, [.c .nil, .c .nil, .c .nil, .c .nil, .c (iC 0), .c (iC 0), .c (iC 0), .c .nil, .c (iC 0), .c (iC 0), .c (iC 0), .c .nil, .c (bC false), .c (iC 0), .c (iC 0), .c .nil, .c .nil, .c (iC 0), .c .nil]), (0, 135, diceA v0 i.2.2.2)], [(101, 74, 1, (i.2.2.1.two.a.kept.map fun r => [ints r])), (102, 212, 2, (i.2.2.1.two.a.wait.map fun x => [iC x.1, ints x.2])), (103, 74, 1, (i.2.2.1.two.b.kept.map fun r => [ints r])), (104, 212, 2, (i.2.2.1.two.b.wait.map fun x => [iC x.1, ints x.2])), (105, 94, 3, (i.2.2.1.head.seen.map markC)), (106, 94, 3, (i.2.2.1.next.seen.map markC)), (107, 80, 9, (i.2.2.1.book.entries.map entryC)), (108, 94, 3, (i.2.2.1.seen.map markC)), (109, 83, 4, (i.2.2.1.owe.map ackC))], []⟩ : St)) (fun i => i.2.1 = (m : Int) - i.1 ∧ i.1 ≤ m ∧ Lg i.1 i.2.2.1) (fun i => m - i.1) (0, m, newLogF, δ0) [(101, 6), (102, 1006), (103, 2006), (104, 3006), (105, 4006), (106, 5006), (107, 6006), (108, 7006), (109, 8006)] (⟨by simp, by simp, newLg⟩) ⟨trf, trf, ⟨⟨_, rfl, by rfl⟩, ⟨_, rfl, by rfl⟩, ⟨_, rfl, by rfl⟩, ⟨_, rfl, by rfl⟩, ⟨_, rfl, by rfl⟩, ⟨_, rfl, by rfl⟩, ⟨_, rfl, by rfl⟩, ⟨_, rfl, by rfl⟩, ⟨_, rfl, by rfl⟩, trivial⟩, tre, rfl⟩ ?_))))))))))))))
 intro i hp
 obtain ⟨k, z, lg, δ⟩ := i
 have hp : z = (m : Int) - k ∧ k ≤ m ∧ Lg k lg := hp
 obtain ⟨p0, p1, p2⟩ := hp
 show Ev _ _ _ _ (⟨[(0, pbV 0 0), (1, iV z), (4, pbV 4 0), (5, pbV 5 0)], [(5, 55, [.rt 101, .rt 102, .rt 103, .rt 104, .c (iC lg.head.num), .c (iC lg.head.base), .c (iC lg.head.time), .rt 105, .c (iC lg.next.num), .c (iC lg.next.base), .c (iC lg.next.time), .rt 106, .c (bC lg.more), .c (iC lg.book.base), .c (iC lg.book.time), .rt 107, .rt 108, .c (iC lg.durable), .rt 109]), (4, 55, [.c .nil, .c .nil, .c .nil, .c .nil, .c (iC 0), .c (iC 0), .c (iC 0), .c .nil, .c (iC 0), .c (iC 0), .c (iC 0), .c .nil, .c (bC false), .c (iC 0), .c (iC 0), .c .nil, .c .nil, .c (iC 0), .c .nil]), (0, 135, diceA v0 δ)], [(101, 74, 1, (lg.two.a.kept.map fun r => [ints r])), (102, 212, 2, (lg.two.a.wait.map fun x => [iC x.1, ints x.2])), (103, 74, 1, (lg.two.b.kept.map fun r => [ints r])), (104, 212, 2, (lg.two.b.wait.map fun x => [iC x.1, ints x.2])), (105, 94, 3, (lg.head.seen.map markC)), (106, 94, 3, (lg.next.seen.map markC)), (107, 80, 9, (lg.book.entries.map entryC)), (108, 94, 3, (lg.seen.map markC)), (109, 83, 4, (lg.owe.map ackC))], []⟩ : St)
 have hbd := p2.bd
 refine sq (sq (rg (xm rfl rfl (xb ttOk rfl rfl (nl (et (ev_cond rfl (fun h1 => ?_) (fun h1 => ?_))))))))
 ·try have d1 := of_decide_eq_true h1
  refine ev_skip (et (sq (ev_blk (sq (rg (xm rfl rfl (evl_roll (nm := 12) (cf rfl) (c_below _ om) rfl rfl hsrc (rs_of rfl) (fun _ => rfl) (fun x2 δ2 r2 => ?_))))))))
  refine rlk rfl rfl rfl ?_
  obtain ⟨r2a, r2b⟩ := r2
  refine nl (et (ev_blk (sq (sq (rg (xb ttOk rfl rfl (xs rfl rfl (nl (et (ev_cond rfl (fun h3 => ?_) (fun h3 => ?_)))))))))))
  ·try have d3 := of_decide_eq_true h3
   refine ev_skip (et (ev_cond_kt rfl h3 (rg (xl ttOk rfl rfl (evl_call (nm := 28) (cf rfl) (c_SyncedLog' lg) (rs_of rfl) rfl rfl rfl (xm rfl rfl (xo (q_ext rfl) rfl (xo (q_ext rfl) rfl (xst ttOk rfl rfl (nl (eb (eb (et (rg (xm rfl rfl (xa rfl rfl rfl om rfl (xs rfl rfl (nl (eve_round (k + 1, z - 1, (syncedF lg).1, δ2) [(101, 28), (102, 1028), (103, 2028), (104, 3028), (105, 4028), (106, 5028), (107, 6028), (108, 7028), (109, 8028)] ?hp ⟨trf, trf, ⟨⟨_, rfl, rfl⟩, ⟨_, rfl, rfl⟩, ⟨_, rfl, rfl⟩, ⟨_, rfl, rfl⟩, ⟨_, rfl, rfl⟩, ⟨_, rfl, rfl⟩, ⟨_, rfl, rfl⟩, ⟨_, rfl, rfl⟩, ⟨_, rfl, rfl⟩, trivial⟩, tre, rfl⟩)))))))))))))))))))
   case hp => exact ⟨⟨by dsimp only; omega, by omega, p2.sync.mono om⟩, by omega⟩
  ·try have d3 := of_decide_eq_false h3
   refine rg (xb ttOk rfl rfl (xs rfl rfl (nl (et (ev_cond rfl (fun h4 => ?_) (fun h4 => ?_))))))
   ·try have d4 := of_decide_eq_true h4
    refine rg (xl ttOk rfl rfl (evl_call (nm := 28) (cf rfl) (c_SyncedLog' lg) (rs_of rfl) rfl rfl rfl (xm rfl rfl (xo (q_ext rfl) rfl (xo (q_ext rfl) rfl (xst ttOk rfl rfl (nl (eb (eb (et (rg (xm rfl rfl (xa rfl rfl rfl om rfl (xs rfl rfl (nl (eve_round (k + 1, z - 1, (syncedF lg).1, δ2) [(101, 28), (102, 1028), (103, 2028), (104, 3028), (105, 4028), (106, 5028), (107, 6028), (108, 7028), (109, 8028)] ?hp ⟨trf, trf, ⟨⟨_, rfl, rfl⟩, ⟨_, rfl, rfl⟩, ⟨_, rfl, rfl⟩, ⟨_, rfl, rfl⟩, ⟨_, rfl, rfl⟩, ⟨_, rfl, rfl⟩, ⟨_, rfl, rfl⟩, ⟨_, rfl, rfl⟩, ⟨_, rfl, rfl⟩, trivial⟩, tre, rfl⟩))))))))))))))))
    case hp => exact ⟨⟨by dsimp only; omega, by omega, p2.sync.mono om⟩, by omega⟩
   ·try have d4 := of_decide_eq_false h4
    refine sq (rg (xb ttOk rfl rfl (xs rfl rfl (nl (et (ev_cond rfl (fun h5 => ?_) (fun h5 => ?_)))))))
    ·try have d5 := of_decide_eq_true h5
     refine ev_drawd [9] g mo (rdd_take 0 0 0 rfl kr trivial rfl rfl rfl rfl (q_load ttOk rfl) rfl rfl (rdd_pure 1 rfl kr trivial (qw_fieldAddr ttOk rfl) rfl (rdd_pure 2 rfl kr trivial (qw_fieldAddr ttOk rfl) rfl (rdd_take 0 0 3 rfl kr trivial rfl rfl rfl rfl (q_load ttOk rfl) rfl rfl (rdd_pure 4 rfl kr trivial (qw_ar rfl rfl rfl om) rfl (rdd_pure 5 rfl kr trivial (qw_move rfl) rfl (rdd_1 6 kr (rddo_roll (nm := 39) 0 rfl trivial rfl rfl (cf rfl) (c_below _ om) rfl rfl hsrc (rs_of rfl) (fun _ => rfl) (fun x6 δ6 r6 => ?_)))))))))
     refine rdk rfl rfl rfl ?_
     obtain ⟨r6a, r6b⟩ := r6
     refine rdd_pure 7 rfl kr trivial (qw_ar rfl rfl rfl om) rfl (rdd_1 8 kr (rddo_call (nm := 41) rfl trivial (cf rfl) (c_TrimAsked' lg _) (rs_of rfl) rfl rfl rfl (rdd_1 9 kr (rddo_brk rfl kr trivial (e_store ttOk rfl) (rdd_endq kr (eb (eb (et (rg (xm rfl rfl (xa rfl rfl rfl om rfl (xs rfl rfl (nl (eve_round (k + 1, z - 1, trimAskedF lg (lg.head.base + 1 + x6), δ6) [(101, 41), (102, 1041), (103, 2041), (104, 3041), (105, 4041), (106, 5041), (107, 6041), (108, 7041), (109, 8041)] ?hp ⟨trf, trf, ⟨⟨_, rfl, rfl⟩, ⟨_, rfl, rfl⟩, ⟨_, rfl, rfl⟩, ⟨_, rfl, rfl⟩, ⟨_, rfl, rfl⟩, ⟨_, rfl, rfl⟩, ⟨_, rfl, rfl⟩, ⟨_, rfl, rfl⟩, ⟨_, rfl, rfl⟩, trivial⟩, tre, rfl⟩))))))))))))))
     case hp => exact ⟨⟨by dsimp only; omega, by omega, (p2.trim _).mono om⟩, by omega⟩
    ·try have d5 := of_decide_eq_false h5
     refine sq (rg (xb ttOk rfl rfl (xs rfl rfl (nl (et (ev_cond rfl (fun h7 => ?_) (fun h7 => ?_)))))))
     ·try have d7 := of_decide_eq_true h7
      refine ev_drawd [8] g mo (rdd_take 0 0 0 rfl kr trivial rfl rfl rfl rfl (q_load ttOk rfl) rfl rfl (rdd_pure 1 rfl kr trivial (qw_move rfl) rfl (rdd_1 2 kr (rddo_roll (nm := 47) 0 rfl trivial rfl rfl (cf rfl) (c_w9Fates 20 om) rfl rfl hsrc (rs_of rfl) (fun _ => rfl) (fun x8 δ8 r8 => ?_)))))
      refine rdk rfl rfl rfl (rdd_1 3 kr (rddo_call (nm := 48) rfl trivial (cf rfl) (c_FallenLog' lg _ om) (rs_of rfl) rfl rfl rfl (rdd_1 4 kr (rddo_call (nm := 49) rfl trivial (cf rfl) (c_RisenLog1 (fallenLogF lg _)) (rs_of rfl) rfl rfl rfl (rdd_pure 5 rfl kr trivial (qw_move rfl) rfl (rdd_pure 6 rfl kr trivial (qw_ext rfl) rfl (rdd_pure 7 rfl kr trivial (qw_ext rfl) rfl (rdd_1 8 kr (rddo_brk rfl kr trivial (e_store ttOk rfl) (rdd_endq kr (eb (eb (et (rg (xm rfl rfl (xa rfl rfl rfl om rfl (xs rfl rfl (nl (eve_round (k + 1, z - 1, (risenF (fallenLogF lg x8).two).1, δ8) [(101, 49), (102, 1049), (103, 2049), (104, 3049), (105, 4049), (106, 5049), (107, 6049), (108, 7049), (109, 8049)] ?hp ⟨trf, trf, ⟨⟨_, rfl, rfl⟩, ⟨_, rfl, rfl⟩, ⟨_, rfl, rfl⟩, ⟨_, rfl, rfl⟩, ⟨_, rfl, rfl⟩, ⟨_, rfl, rfl⟩, ⟨_, rfl, rfl⟩, ⟨_, rfl, rfl⟩, ⟨_, rfl, rfl⟩, trivial⟩, tre, rfl⟩)))))))))))))))))))
      case hp => exact ⟨⟨by dsimp only; omega, by omega, (p2.rise _).mono om⟩, by omega⟩
     ·try have d7 := of_decide_eq_false h7
      refine sq (rg (xb ttOk rfl rfl (xs rfl rfl (nl (et (ev_cond rfl (fun h9 => ?_) (fun h9 => ?_)))))))
      ·try have d9 := of_decide_eq_true h9
       refine ev_drawd [9] g mo (rdd_take 0 0 0 rfl kr trivial rfl rfl rfl rfl (q_load ttOk rfl) rfl rfl (rdd_pure 1 rfl kr trivial (qw_move rfl) rfl (rdd_pure 3 rfl kr trivial (qw_move rfl) rfl (rdd_1 2 kr (rddo_roll (nm := 57) 0 rfl trivial rfl rfl (cf rfl) c_w9Ask rfl rfl hsrc (rs_of rfl) (fun _ => rfl) (fun x10 δ10 r10 => ?_))))))
       refine rdk rfl rfl rfl ?_
       have hao : askOkF x10 = true ∧ x10.seq ≤ 10 + k := ⟨r10.1, by have := r10.2; omega⟩
       refine rdd_1 4 kr (rddo_roll (nm := 59) 0 rfl trivial rfl rfl (cf rfl) (c_below _ om) rfl rfl hsrc (rs_of rfl) (fun _ => rfl) (fun x11 δ11 r11 => ?_))
       refine rdk rfl rfl rfl ?_
       obtain ⟨r11a, r11b⟩ := r11
       refine rdd_1 5 kr (rddo_call (nm := 60) rfl trivial (cf rfl) (c_AskedOf1 lg _ _ (p2.ask1 hao.1 ⟨by omega, by omega⟩ om)) (rs_of rfl) rfl rfl rfl (rdd_pure 6 rfl kr trivial (qw_move rfl) rfl (rdd_pure 7 rfl kr trivial (qw_ext rfl) rfl (rdd_pure 8 rfl kr trivial (qw_ext rfl) rfl (rdd_1 9 kr (rddo_brk rfl kr trivial (e_store ttOk rfl) (rdd_endq kr (eb (eb (et (rg (xm rfl rfl (xa rfl rfl rfl om rfl (xs rfl rfl (nl (eve_round (k + 1, z - 1, (askedF lg x10 x11).1, δ11) [(101, 60), (102, 1060), (103, 2060), (104, 3060), (105, 4060), (106, 5060), (107, 6060), (108, 7060), (109, 8060)] ?hp ⟨trf, trf, ⟨⟨_, rfl, rfl⟩, ⟨_, rfl, rfl⟩, ⟨_, rfl, rfl⟩, ⟨_, rfl, rfl⟩, ⟨_, rfl, rfl⟩, ⟨_, rfl, rfl⟩, ⟨_, rfl, rfl⟩, ⟨_, rfl, rfl⟩, ⟨_, rfl, rfl⟩, trivial⟩, tre, rfl⟩))))))))))))))))
       case hp => exact ⟨⟨by dsimp only; omega, by omega, p2.ask2 hao.1 ⟨by omega, by omega⟩ om om⟩, by omega⟩
      ·try have d9 := of_decide_eq_false h9
       refine ev_drawd [10] g mo (rdd_take 0 0 0 rfl kr trivial rfl rfl rfl rfl (q_load ttOk rfl) rfl rfl (rdd_pure 1 rfl kr trivial (qw_move rfl) rfl (rdd_take 0 0 2 rfl kr trivial rfl rfl rfl rfl (q_load ttOk rfl) rfl rfl (rdd_pure 4 rfl kr trivial (qw_move rfl) rfl (rdd_1 3 kr (rddo_roll (nm := 17) 0 rfl trivial rfl rfl (cf rfl) (c_w9Fresh lg p2.seenOk) rfl rfl hsrc (rs_of rfl) (fun _ => rfl) (fun x12 δ12 r12 => ?_)))))))
       refine rdk rfl rfl rfl ?_
       have hao := p2.fresh_ok r12.1 r12.2.1 r12.2.2 om
       refine rdd_1 5 kr (rddo_roll (nm := 19) 0 rfl trivial rfl rfl (cf rfl) (c_below _ om) rfl rfl hsrc (rs_of rfl) (fun _ => rfl) (fun x13 δ13 r13 => ?_))
       refine rdk rfl rfl rfl ?_
       obtain ⟨r13a, r13b⟩ := r13
       refine rdd_1 6 kr (rddo_call (nm := 20) rfl trivial (cf rfl) (c_AskedOf1 lg _ _ (p2.ask1 hao.1 ⟨by omega, by omega⟩ om)) (rs_of rfl) rfl rfl rfl (rdd_pure 7 rfl kr trivial (qw_move rfl) rfl (rdd_pure 8 rfl kr trivial (qw_ext rfl) rfl (rdd_pure 9 rfl kr trivial (qw_ext rfl) rfl (rdd_1 10 kr (rddo_brk rfl kr trivial (e_store ttOk rfl) (rdd_endq kr (eb (eb (et (rg (xm rfl rfl (xa rfl rfl rfl om rfl (xs rfl rfl (nl (eve_round (k + 1, z - 1, (askedF lg x12 x13).1, δ13) [(101, 20), (102, 1020), (103, 2020), (104, 3020), (105, 4020), (106, 5020), (107, 6020), (108, 7020), (109, 8020)] ?hp ⟨trf, trf, ⟨⟨_, rfl, rfl⟩, ⟨_, rfl, rfl⟩, ⟨_, rfl, rfl⟩, ⟨_, rfl, rfl⟩, ⟨_, rfl, rfl⟩, ⟨_, rfl, rfl⟩, ⟨_, rfl, rfl⟩, ⟨_, rfl, rfl⟩, ⟨_, rfl, rfl⟩, trivial⟩, tre, rfl⟩))))))))))))))))
       case hp => exact ⟨⟨by dsimp only; omega, by omega, p2.ask2 hao.1 ⟨by omega, by omega⟩ om om⟩, by omega⟩
 ·try have d1 := of_decide_eq_false h1
  refine ev_exit (evx_then (evx_then (evx_hit (et (sq (rg (xl ttOk rfl rfl (xst ttOk rfl rfl (nl (et (ev_ret ?_)))))))))))
  obtain rfl : k = m := by omega
  refine ret_roll lg δ ttOk rfl rfl rfl rfl ?_ ?_
  ·simp [RpLe, L2, RcLe]
  ·exact p2
theorem sameL_refl {n : LogN} : sameL n n = true := by
 simp [sameL, eqD, eqX, eqHd, eqBk, eqN]
section
variable {n : LogN} {k : Nat}
theorem Lg.risen (h : Lg k n) (F : List Int) : ∃ r, risenF (fallenLogF n F).two = (r, true) ∧ Lg k r ∧ n.durable ≤ r.durable ∧ n.head.base ≤ r.head.base ∧ r.owe = [] ∧ r.more = false := by
 have h0 := h.rise F
 obtain ⟨hd, es, m, c, h1, h2, h3, h4, h5, h6⟩ := h.j.rise F
 rw [fallen_two h.ok] at h0 ⊢
 rw [h5] at h0
 refine ⟨_, h5, h0, ?_, ?_, rfl, rfl⟩
 ·show n.durable ≤ lastB ⟨hd.base, hd.time, es.take m⟩
  unfold lastB
  simp only [List.length_take]
  omega
 ·show n.head.base ≤ hd.base
  rcases h1 with ⟨rfl, _⟩ | ⟨hm, rfl, _⟩
  ·exact Int.le_refl _
  ·have := (h.j.next hm).2.2.1; omega
end
theorem c_w9LogI (m : Int) (hm : 0 ≤ m ∧ m ≤ 18) : Rolls Tryz.prog 135 37 [one (iC m)] (α := LogN) (fun n => Lg m.toNat n) (fun n => [many' (logR n)]) := by
 obtain ⟨k, rfl⟩ := Int.eq_ofNat_of_zero_le hm.1
 exact c_w9Log k om
def Fc (len k c : Nat) : Prop := c ≤ len ∧ (3 * k ≤ c ∨ c = len)
theorem Fc.next {len k c g : Nat} (h : Fc len k c) (hg : g = min 3 (len - c)) : Fc len (k + 1) (c + g) := by
 obtain ⟨h1, h2⟩ := h
 exact ⟨by omega, by omega⟩
structure Nt (k m : Nat) (n : LogN) : Prop where
 lg : Lg k n
 more : n.more = false
 len : n.book.entries.length = m
section
variable {n : LogN} {k m : Nat}
theorem Nt.ask1 (h : Nt k m n) {a : Ask} {now : Int} (ha : askOkF a = true) (hn : 0 ≤ now ∧ now < 1000) (hk : k < 1900) (hm : m < 20) : logOkF n = true → askOkF a = true → timeOk now = true → a.seq > (findM n.seen a.client).seq → takesA n (entA n a now) = true :=
 fun _ _ h2 _ => h.lg.takes ha h2 om (by rw [h.len]; exact hm)
theorem Nt.ask (h : Nt k m n) {a : Ask} {now : Int} (h1 : askerOk a.client = true) (h2 : opOk a.kind a.a a.b a.c a.d = true) (h3 : a.seq = (findM n.seen a.client).seq + 1) (hn : 0 ≤ now ∧ now < 1000) (hk : k < 1800) (hm : m < 20) :
  Nt (k + 1) (m + 1) (askedF n a now).1 ∧ (askedF n a now).1.head = n.head ∧ (askedF n a now).1.durable = n.durable ∧ n.book.entries = (askedF n a now).1.book.entries.take m := by
 obtain ⟨ha, hq, hs⟩ := h.lg.fresh_ok h1 h2 h3 om
 have ht := time_small hn
 have hl := h.len
 have htk := h.lg.takes ha ht om om
 have hw := h.lg.withE ha ht om om hs hq
 have e : (askedF n a now).1 = Go.Proofs.YtinmcdcmidlgpaaGreatDoor.withE n (entA n a now) := by
  rw [ak_fresh h.lg.ok ha ht hs]
  show freshLogF n a now = _
  unfold freshLogF
  rw [htk]
  rfl
 rw [e]
 have he : (Go.Proofs.YtinmcdcmidlgpaaGreatDoor.withE n (entA n a now)).book.entries = n.book.entries ++ [entA n a now] := rfl
 refine ⟨⟨hw, h.more, by simp [he, hl]⟩, rfl, rfl, ?_⟩
 rw [he, List.take_append_of_le_length om, List.take_of_length_le om]
theorem Nt.sync (h : Nt k m n) : Nt k m (syncedF n).1 ∧ (syncedF n).1.head = n.head ∧ (syncedF n).1.durable = n.head.base + m ∧ (syncedF n).1.book = n.book := by
 have hs := h.lg.sync
 have hb := (log_bases h.lg.ok).1
 have hl := h.len
 have e : lastB n.book = n.head.base + m := by unfold lastB; omega
 rw [sy_less h.lg.ok h.more] at hs ⊢
 exact ⟨⟨hs, h.more, h.len⟩, rfl, e, rfl⟩
theorem Nt.held (h : Nt k m n) (hd : n.durable = n.head.base + m) : heldF n = n.book.entries := by
 have hb := (log_bases h.lg.ok).1
 rw [held_yes h.lg.ok, List.take_of_length_le (by rw [h.len]; omega)]
theorem Nt.trim (h : Nt k m n) {x : Int} (hd : n.durable = n.head.base + m) (h1 : n.head.base < x) (h2 : x ≤ n.durable) :
  Nt k (m - (x - n.head.base).toNat) (syncedF (trimAskedF n x)).1 ∧ (syncedF (trimAskedF n x)).1.head.base = x ∧ (syncedF (trimAskedF n x)).1.durable = n.durable := by
 have ht := (h.lg.trim x)
 have hs := ht.sync
 have hb := (log_bases h.lg.ok).1
 have hl := h.len
 have e := h.lg.j.trim_eq h.more (inB_iff.2 ⟨by omega, h2⟩ : inB x (n.head.base + 1) n.durable = true)
 rw [e] at ht hs ⊢
 have hx : inB x n.book.base (lastB n.book) = true := inB_iff.2 ⟨by omega, by unfold lastB; omega⟩
 have e2 := tr_yes h.lg.j.parts.2.2.1 hx
 rw [sy_more ht.ok rfl] at hs ⊢
 have e3 : (nextF n x).base = x := rfl
 simp only [e3, e2] at hs ⊢
 refine ⟨⟨hs, rfl, ?_⟩, trivial, by unfold lastB; omega⟩
 show (n.book.entries.drop _).length = _
 rw [List.length_drop, hl, hb]
theorem Nt.risen (h : Nt k m n) (F : List Int) : ∃ (r : LogN) (j : Nat), risenF (fallenLogF n F).two = (r, true) ∧ Lg k r ∧ r.head.base = n.head.base ∧ heldF r = n.book.entries.take j ∧ n.durable - n.head.base ≤ j ∧ j ≤ m := by
 have h0 := h.lg.rise F
 obtain ⟨hd, es, j, c, h1, h2, h3, h4, h5, h6⟩ := h.lg.j.rise F
 rw [fallen_two h.lg.ok] at h0 ⊢
 rw [h5] at h0
 rcases h1 with ⟨rfl, rfl⟩ | ⟨hm, _⟩
 ·refine ⟨_, j, h5, h0, rfl, ?_, by omega, by rw [← h.len]; exact h3⟩
  have ok : logOkF (riseL n.head (n.book.entries.take j) c) = true := h6.ok
  rw [held_yes ok]
  show (n.book.entries.take j).take (lastB ⟨n.head.base, n.head.time, n.book.entries.take j⟩ - n.head.base).toNat = _
  rw [List.take_of_length_le (by unfold lastB; dsimp only; omega)]
 ·rw [h.more] at hm; cases hm
end
structure Rg (b : Int) (j : Nat) (H : List Entry) (n : LogN) : Prop where
 nt : Nt (20 + j) ((20 - b).toNat + j) n
 base : n.head.base = b
 dur : n.durable = 20
 pre : n.book.entries.take (20 - b).toNat = H
theorem Rg.next {b : Int} {j : Nat} {H : List Entry} {n : LogN} (h : Rg b j H n) (hb : 3 ≤ b ∧ b ≤ 9) (hj : j < b) {a : Ask} {now : Int} (h1 : askerOk a.client = true) (h2 : opOk a.kind a.a a.b a.c a.d = true) (h3 : a.seq = (findM n.seen a.client).seq + 1) (hn : 0 ≤ now ∧ now < 1000) : Rg b (j + 1) H (askedF n a now).1 := by
 obtain ⟨g1, g2, g3, g4⟩ := h.nt.ask h1 h2 h3 hn om om
 refine ⟨g1, by rw [g2, h.base], by rw [g3, h.dur], ?_⟩
 rw [← h.pre, g4, List.take_take]
 congr 1
 omega
theorem pre_take {α : Type} {l H : List α} {a j : Nat} (h : l.take a = H) (ha : H.length = a) (hj : a ≤ j) : (l.take j).take H.length = H := by
 rw [List.take_take, ha, Nat.min_eq_left hj, h]
theorem take_pre {α : Type} {l : List α} {j : Nat} : l.take (l.take j).length = l.take j := by
 rw [List.length_take]
 rcases Nat.lt_or_ge j l.length with h | h
 ·rw [Nat.min_eq_left om]
 ·rw [Nat.min_eq_right om, List.take_length, List.take_of_length_le h]
theorem Rg.fin {b : Int} {H : List Entry} {n : LogN} {j : Nat} (hj : (j : Int) = b) (h : Rg b j H n) (hb : 3 ≤ b ∧ b ≤ 9) : ∃ A : List Entry, heldF (syncedF n).1 = A ∧ A.length = 20 ∧ A.take H.length = H ∧ H.length ≤ 20 ∧
  ∀ F : List Int, ∃ (r : LogN) (B : List Entry), risenF (fallenLogF n F).two = (r, true) ∧ heldF r = B ∧ A.take B.length = B ∧ B.take H.length = H ∧ r.head.base = b ∧ B.length ≤ 20 := by
 obtain ⟨s1, s2, s3, s4⟩ := h.nt.sync
 have hl := h.nt.len
 have hlen : n.book.entries.length = 20 := by omega
 have hH : H.length = (20 - b).toNat := by rw [← h.pre, List.length_take]; omega
 have hA : heldF (syncedF n).1 = n.book.entries := by
  rw [s1.held (by rw [s3, s2]), s4]
 refine ⟨_, hA, hlen, by rw [hH]; exact h.pre, by omega, fun F => ?_⟩
 obtain ⟨r, i, r1, r2, r3, r4, r5, r6⟩ := h.nt.risen F
 rw [h.dur, h.base] at r5
 exact ⟨r, _, r1, r4, take_pre, pre_take h.pre hH om, by rw [r3, h.base], by rw [List.length_take]; omega⟩
theorem Lg.synt {n : LogN} {k : Nat} (h : Lg k n) : ∃ m, Nt k m (syncedF n).1 ∧ (syncedF n).1.durable = (syncedF n).1.head.base + m ∧ m ≤ 20 := by
 have hs := h.sync
 have hd : (syncedF n).1.durable = lastB (syncedF n).1.book := by
  cases hm : n.more
  ·rw [sy_less h.ok hm]
  ·obtain ⟨n1, n2, n3, n4, n5⟩ := h.j.next hm
   have hdu := log_dur h.ok
   have hb := (log_bases h.ok).1
   have hx : inB n.next.base n.book.base (lastB n.book) = true := inB_iff.2 ⟨by omega, by omega⟩
   rw [sy_more h.ok hm, tr_yes h.j.parts.2.2.1 hx]
   show lastB n.book = lastB ⟨_, _, n.book.entries.drop _⟩
   unfold lastB at hdu ⊢
   simp only [List.length_drop]
   omega
 have hb := (log_bases hs.ok).1
 have hl := (log_small hs.ok).2.2.1
 refine ⟨(syncedF n).1.book.entries.length, ⟨hs, ?_, rfl⟩, by rw [hd, ← hb]; rfl, hl⟩
 cases hm : n.more
 ·rw [sy_less h.ok hm]; exact hm
 ·rw [sy_more h.ok hm]
section
variable {n : LogN} {k m : Nat}
theorem Nt.trims (h : Nt k m n) (hd : n.durable = n.head.base + m) {i : Nat} (hi : i < m) {q : Int} (hq : q = n.head.base + 1 + i) :
  ∃ x y : LogN, trimAskedF n q = x ∧ Lg k x ∧ x.more = true ∧ heldF x = n.book.entries ∧ trimAskedF x n.durable = x ∧ (syncedF x).1 = y ∧ y.head.base = q ∧ y.durable = n.durable ∧ heldF y = n.book.entries.drop (i + 1) ∧ y.seen = n.seen ∧
   ∀ F, ∃ r, risenF (fallenLogF x F).two = (r, true) ∧ r.durable = n.durable ∧ r.seen = n.seen ∧ ((r.head.base = n.head.base ∧ heldF r = n.book.entries) ∨ (r.head.base = q ∧ heldF r = n.book.entries.drop (i + 1))) := by
 have hb := (log_bases h.lg.ok).1
 have hl := h.len
 have hla : lastB n.book = n.head.base + m := by unfold lastB; omega
 have hov := (log_seen h.lg.ok).1
 have hno := next_over h.lg.ok (x := q) om om
 have ht := h.lg.trim q
 have e := h.lg.j.trim_eq h.more (inB_iff.2 ⟨by omega, by omega⟩ : inB q (n.head.base + 1) n.durable = true)
 have hx : inB q n.book.base (lastB n.book) = true := inB_iff.2 ⟨by omega, by omega⟩
 have e2 := tr_yes h.lg.j.parts.2.2.1 hx
 have hq1 : (q - n.book.base).toNat = i + 1 := by omega
 obtain ⟨x, hxe⟩ : ∃ x, x = trimAskedF n q := ⟨_, rfl⟩
 rw [← hxe] at ht e
 have xm : x.more = true := by rw [e]
 have xh : x.head = n.head := by rw [e]
 have xn : x.next = nextF n q := by rw [e]
 have xb : x.book = n.book := by rw [e]
 have xd : x.durable = n.durable := by rw [e]
 have xs : x.seen = n.seen := by rw [e]
 have xq : x.next.base = q := by rw [xn]; rfl
 have hs := ht.sync
 have es := sy_more ht.ok xm
 rw [xb, xq, e2, xn, xs, hq1] at es
 have hsy : (syncedF x).1 = ⟨bothSyncF x.two, nextF n q, noHead, false, ⟨q, timeAtF n.book q, n.book.entries.drop (i + 1)⟩, n.seen, lastB n.book, []⟩ := by rw [es]
 have hb1 : (nextF n q).base = q := rfl
 refine ⟨x, (syncedF x).1, hxe.symm, ht, xm, ?_, trim_same ht.ok (.inl xm), rfl, by rw [hsy]; rfl, by rw [hsy]; show lastB n.book = _; omega, ?_, by rw [hsy], fun F => ?_⟩
 ·rw [held_yes ht.ok, xb, xd, List.take_of_length_le om]
 ·rw [held_yes hs.ok, hsy]
  show (n.book.entries.drop (i + 1)).take (lastB n.book - q).toNat = _
  rw [List.take_of_length_le (by rw [List.length_drop]; omega)]
 ·have h0 := ht.rise F
  obtain ⟨hd2, es2, j, c, h1, h2, h3, h4, h5, h6⟩ := ht.j.rise F
  rw [fallen_two ht.ok] at h0 ⊢
  refine ⟨_, h5, ?_, ?_, ?_⟩
  ·show lastB ⟨hd2.base, hd2.time, es2.take j⟩ = _
   unfold lastB
   simp only [List.length_take]
   rw [xd] at h2
   rcases h1 with ⟨rfl, rfl⟩ | ⟨_, rfl, rfl⟩
   ·rw [xh, xb] at *
    omega
   ·rw [xq, xb, hq1, List.length_drop] at *
    omega
  ·show c = _
   rw [xd] at h2
   rcases h1 with ⟨rfl, rfl⟩ | ⟨_, rfl, rfl⟩
   ·rw [xh, xb] at *
    rw [List.take_of_length_le om, hov] at h4
    injection h4 with h4
    exact h4.symm
   ·rw [xq] at h2
    rw [xq, xb, hq1, List.take_of_length_le (by rw [List.length_drop]; omega), xn] at h4
    have h9 := hno.2
    rw [hq1, h4] at h9
    injection h9
  ·have ok : logOkF (riseL hd2 (es2.take j) c) = true := h6.ok
   have ehe : heldF (riseL hd2 (es2.take j) c) = es2.take j := by
    rw [held_yes ok]
    show (es2.take j).take (lastB ⟨hd2.base, hd2.time, es2.take j⟩ - hd2.base).toNat = _
    rw [List.take_of_length_le (by unfold lastB; dsimp only; omega)]
   rw [ehe]
   show (hd2.base = n.head.base ∧ _) ∨ (hd2.base = q ∧ _)
   rw [xd] at h2
   rcases h1 with ⟨rfl, rfl⟩ | ⟨_, rfl, rfl⟩
   ·rw [xh, xb] at *
    exact .inl ⟨rfl, List.take_of_length_le om⟩
   ·rw [xq] at h2
    rw [xq, xb, hq1]
    exact .inr ⟨rfl, List.take_of_length_le (by rw [List.length_drop]; omega)⟩
end
theorem inB_out {x lo hi : Int} (h : hi < x) : inB x lo hi = false := by
 cases hz : inB x lo hi with
 | false => rfl
 | true => have := inB_iff.1 hz; omega
theorem c_w9Same (l m : List Entry) : Pure Tryz.prog 38 [one (entries l), one (entries m)] (bR (eqN Entry.nums l m)) := by
 refine pure_intro (N := 26) Tryz.func38 rfl rfl rfl rfl (fun H w => ?_)
 refine ev_lenm (t := 0) rfl (fun hL => ?_)
 refine ev_lenm (t := 1) rfl (fun hM => ?_)
 refine sq (rg (xs rfl rfl (nl (et (sq (sq (rg (xm rfl rfl (xo (q_len_map ttOk rfl rfl) rfl (xm rfl rfl (xo (q_len_map ttOk rfl rfl) rfl (xb ttOk rfl rfl (nl (et (ev_cond rfl (fun h1 => ?_) (fun h1 => ?_))))))))))))))))
 ·have d1 := of_decide_eq_true h1
  refine sq (rg (xs rfl rfl (nl (et (ev_ret (evr_then (ret_pure' ttOk rfl rfl (congrArg bR (?_ : _ = _)))))))))
  rw [eqN_len d1]
 ·have d1 := of_decide_eq_false h1
  have hlen : l.length = m.length := by omega
  refine ev_skip (et (sq (sq (rg (xs rfl rfl (nl (et (ev_blk (ev_loop (fun k : Nat => (⟨[(5, iV k), (0, cV (entries l)), (1, cV (entries m))], [], [], []⟩ : St)) (fun k => k ≤ l.length ∧ (l.take k).map Entry.nums = (m.take k).map Entry.nums) (fun k => l.length - k) 0 [] (⟨by simp, by simp⟩) lei ?_)))))))))
  intro k hp
  obtain ⟨p0, p1⟩ := hp
  show Ev _ _ _ _ (⟨[(5, iV k), (0, cV (entries l)), (1, cV (entries m))], [], [], []⟩ : St)
  refine sq (sq (rg (xm rfl rfl (xm rfl rfl (xo (q_len_map ttOk rfl rfl) rfl (xb ttOk rfl rfl (nl (et (ev_cond rfl (fun h2 => ?_) (fun h2 => ?_))))))))))
  ·have d2 := of_decide_eq_true h2
   refine ev_skip (et (sq (ev_blk (sq (ev_drawq [] mo (rk0 0 rfl (q_move rfl) rfl (rk0 1 rfl (q_move rfl) rfl (rk0 2 rfl (q_ix_map ttOk rfl rfl rfl rfl om) rfl (rk0 3 rfl (q_load ttOk rfl) rfl (rk0 4 rfl (q_move rfl) rfl (rk0 5 rfl (q_move rfl) rfl (rk0 6 rfl (q_ix_map ttOk rfl rfl rfl rfl om) rfl (rk0 7 rfl (q_load ttOk rfl) rfl ?_)))))))))))))
   first | refine rk0 8 rfl (q_eqT (n := 9) kr rfl rfl rfl rfl rfl rfl rfl) rfl ?_ | refine rk0 8 rfl (q_bin ttOk rfl) rfl ?_
   refine rdk_endq kr (et (ev_cond rfl (fun h3 => ?_) (fun h3 => ?_)))
   ·have d3 := of_decide_eq_true h3
    refine sq (rg (xs rfl rfl (nl (et (ev_ret (evr_blk (evr_then (evr_then (evr_blk (evr_then (ret_pure' ttOk rfl rfl (congrArg bR (?_ : _ = _)))))))))))))
    rw [eqN_at (k := k) om om d3]
   ·have d3 := of_decide_eq_false h3
    refine ev_skip (eb (et (rg (xm rfl rfl (xa rfl rfl rfl om rfl (xs rfl rfl (nl (eve_round (k + 1) [] ?hp lei))))))))
    case hp => exact ⟨⟨by omega, takeN om om p1 (Decidable.not_not.1 d3)⟩, by omega⟩
  ·have d2 := of_decide_eq_false h2
   refine ev_exit (evx_then (evx_then (evx_hit (et (sq (rg (xs rfl rfl (nl (et (ev_ret (ret_pure' ttOk rfl rfl (congrArg bR (?_ : _ = _)))))))))))))
   exact (takeN_all om hlen p1).symm
theorem L_Trims (l : List Int) (hl : ∀ x ∈ l, 0 ≤ x ∧ x ≤ 255) : Pure Tryz.prog 8 [one (bytes l)] (bR true) := by
 refine pure_intro (N := 173) Tryz.func8 rfl rfl rfl rfl (fun H w => ?_)
 refine sq (rg (xs rfl rfl (nl (et (sq (sq (rg (xm rfl rfl (evl_call (nm := 15) (cf rfl) (c_big _) (rs_of rfl) rfl rfl rfl (nl (et (ev_cond rfl (fun h1 => ?_) (fun h1 => ?_)))))))))))))
 ·try have d1 := of_decide_eq_true h1
  refine sq (rg (xs rfl rfl (nl (et (ev_ret (evr_then (ret_pure' ttOk rfl rfl ?_)))))))
  rfl
 ·try have d1 := of_decide_eq_false h1
  have hn0 : ¬ (l.length : Int) > 4096 := of_decide_eq_false h1
  refine ev_skip (et (sq (rg (xm rfl rfl (evl_mkroll (cf rfl) (c_roll 925) rfl rfl hl om rfl rfl (fun g v0 δ0 hg hsrc => ?_))))))
  refine xs rfl rfl (nl (et (sq (rg (xm rfl rfl (xm rfl rfl (evl_roll (nm := 21) (cf rfl) (c_below _ om) rfl rfl hsrc (rs_of rfl) (fun _ => rfl) (fun x2 δ2 r2 => ?_))))))))
  refine rlk rfl rfl rfl ?_
  obtain ⟨r2a, r2b⟩ := r2
  refine xa rfl rfl rfl om rfl (evl_roll (nm := 23) (cf rfl) (c_w9LogI _ om) rfl rfl hsrc (rs_of rfl) (fun _ => rfl) (fun l0 δ3 r3 => ?_))
  refine rlk rfl rfl rfl ?_
  have hl0 := r3
  obtain ⟨mm, hnt, hdm, hm20⟩ := hl0.synt
  have cS0 := c_SyncedLog' l0
  generalize syncedF l0 = s0 at cS0 hnt hdm
  obtain ⟨lg, tk⟩ := s0
  dsimp only at cS0 hnt hdm
  have cH0 := c_HeldIn' lg
  rw [hnt.held hdm] at cH0
  have hlen := hnt.len
  have hgb := hnt.lg.bd
  have hgl := hnt.lg.last
  first | refine evl_call (nm := 24) (cf rfl) cSx (rs_of rfl) rfl rfl rfl ?_ | refine evl_call (nm := 24) (cf rfl) cS0 (rs_of rfl) rfl rfl rfl ?_
  refine xm rfl rfl (xo (q_ext rfl) rfl (xo (q_ext rfl) rfl (evl_e (e_alloc ttOk rfl rfl rfl rfl) (xst ttOk rfl rfl (xs rfl rfl (nl (et (sq (rg (xl ttOk rfl rfl ?_))))))))))
  first | refine evl_call (nm := 28) (cf rfl) cHr (rs_of rfl) rfl rfl rfl ?_ | refine evl_call (nm := 28) (cf rfl) cHy (rs_of rfl) rfl rfl rfl ?_ | refine evl_call (nm := 28) (cf rfl) cHx (rs_of rfl) rfl rfl rfl ?_ | refine evl_call (nm := 28) (cf rfl) cH0 (rs_of rfl) rfl rfl rfl ?_
  refine xs rfl rfl (nl (et (sq (sq (rg (xm rfl rfl ?_))))))
  first | refine xo (q_len_rtm ttOk rfl rfl rfl) rfl ?_ | refine xo (q_len_map ttOk rfl rfl) rfl ?_
  refine xb ttOk rfl rfl (nl (et (ev_cond rfl (fun h4 => ?_) (fun h4 => ?_))))
  ·try have d4 := of_decide_eq_true h4
   have cT0 := c_TrimAsked' lg (lg.durable + 1)
   rw [trim_same hnt.lg.ok (.inr (inB_out om))] at cT0
   refine sq (ev_drawq [] mo (rk0 0 rfl (q_load ttOk rfl) rfl (rk0 1 rfl (q_fieldAddr ttOk rfl) rfl (rk0 2 rfl (q_load ttOk rfl) rfl (rk0 3 rfl (q_ar rfl rfl rfl om) rfl (rk0 5 rfl (q_load ttOk rfl) rfl (rdk_one 4 kr ?_)))))))
   first | refine rdo_call (nm := 36) rfl trivial (cf rfl) cT2 (rs_of rfl) rfl rfl rfl ?_ | refine rdo_call (nm := 36) rfl trivial (cf rfl) cT1 (rs_of rfl) rfl rfl rfl ?_ | refine rdo_call (nm := 36) rfl trivial (cf rfl) cT0 (rs_of rfl) rfl rfl rfl ?_
   refine rdk_one 6 kr ?_
   first | refine rdo_call (nm := 38) rfl trivial (cf rfl) (c_SameLog' x x) (rs_of rfl) rfl rfl rfl ?_ | refine rdo_call (nm := 38) rfl trivial (cf rfl) (c_SameLog' lg lg) (rs_of rfl) rfl rfl rfl ?_
   refine rk0 7 rfl (q_assign rfl) rfl (rdk_endq kr (et (ev_ret (evr_then ?_))))
   exact ret_law hg ttOk rfl rfl (congrArg bR sameL_refl)
  ·try have d4 := of_decide_eq_false h4
   refine ev_skip (et (sq (rg (xm rfl rfl (xm rfl rfl (xm rfl rfl ?_))))))
   first | refine xo (q_len_rtm ttOk rfl rfl rfl) rfl ?_ | refine xo (q_len_map ttOk rfl rfl) rfl ?_
   refine evl_roll (nm := 43) (cf rfl) (c_below _ om) rfl rfl hsrc (rs_of rfl) (fun _ => rfl) (fun x5 δ5 r5 => ?_)
   refine rlk rfl rfl rfl ?_
   obtain ⟨r5a, r5b⟩ := r5
   obtain ⟨i, rfl⟩ := Int.eq_ofNat_of_zero_le r5a
   have hi1 : i < lg.book.entries.length := by omega
   refine xo (q_ix_rt (m := i) ttOk rfl rfl rfl rfl rfl rfl (by simp; omega)) rfl (xf ttOk rfl rfl (xo (q_load_pr ttOk rfl rfl rfl rfl (get_map om) rfl rfl) rfl (xs rfl rfl (nl (et (sq ?_))))))
   have hix := (hnt.lg.j.ix (j := i) om).1
   have hbb := (log_bases hnt.lg.ok).1
   generalize hq : (lg.book.entries[i]'om).index = q
   rw [hq] at hix
   obtain ⟨x, y, e1, hx, xmo, xhe, e3, e4, y1, y2, y3, y4, hfin⟩ := hnt.trims hdm (i := i) (q := q) om om
   have cT1 := c_TrimAsked' lg q
   rw [e1] at cT1
   have cT2 := c_TrimAsked' x lg.durable
   rw [e3] at cT2
   have cSx := c_SyncedLog' x
   rw [e4] at cSx
   have cHx := c_HeldIn' x
   rw [xhe] at cHx
   have cHy := c_HeldIn' y
   rw [y3] at cHy
   refine ev_frs 28 rfl (fun H2 hH2 => ?_)
   have hsrc := hsrc.mono hH2
   refine ev_le (S' := ⟨[(17, pbV 17 0), (3, pbV 17 0), (4, pbV 4 0), (6, cV (entries lg.book.entries)), (7, iV q)], [(4, 55, [.rt 501, .rt 502, .rt 503, .rt 504, .c (iC lg.head.num), .c (iC lg.head.base), .c (iC lg.head.time), .rt 505, .c (iC lg.next.num), .c (iC lg.next.base), .c (iC lg.next.time), .rt 506, .c (bC lg.more), .c (iC lg.book.base), .c (iC lg.book.time), .rt 507, .rt 508, .c (iC lg.durable), .rt 509]), (17, 135, diceA v0 δ5)], [(501, 74, 1, (lg.two.a.kept.map fun r => [ints r])), (502, 212, 2, (lg.two.a.wait.map fun x => [iC x.1, ints x.2])), (503, 74, 1, (lg.two.b.kept.map fun r => [ints r])), (504, 212, 2, (lg.two.b.wait.map fun x => [iC x.1, ints x.2])), (505, 94, 3, (lg.head.seen.map markC)), (506, 94, 3, (lg.next.seen.map markC)), (507, 80, 9, (lg.book.entries.map entryC)), (508, 94, 3, (lg.seen.map markC)), (509, 83, 4, (lg.owe.map ackC))], []⟩) [(501, 24), (502, 1024), (503, 2024), (504, 3024), (505, 4024), (506, 5024), (507, 6024), (508, 7024), (509, 8024)] lei ?_
   refine rg (xl ttOk rfl rfl (xm rfl rfl ?_))
   first | refine evl_call (nm := 49) (cf rfl) cT2 (rs_of rfl) rfl rfl rfl ?_ | refine evl_call (nm := 49) (cf rfl) cT1 (rs_of rfl) rfl rfl rfl ?_ | refine evl_call (nm := 49) (cf rfl) cT0 (rs_of rfl) rfl rfl rfl ?_
   refine evl_e (e_alloc ttOk rfl rfl rfl rfl) (xst ttOk rfl rfl (nl (et (sq (sq (ev_drawq [] mo (rk0 0 rfl (q_fieldAddr ttOk rfl) rfl (rk0 1 rfl (q_load ttOk rfl) rfl (rk0 2 rfl (q_not rfl) rfl (rk0 3 rfl (q_move rfl) rfl (rdk_take 4 rfl kr ⟨_, _, rfl, rfl, (nf xmo)⟩ (q_load ttOk rfl) rfl (rdk_take 6 rfl kr ⟨_, _, rfl, rfl, (nf xmo)⟩ (q_move rfl) rfl (rdk_one 5 kr ?_)))))))))))))
   first | refine rdo_call (nm := 55) rfl ⟨_, _, rfl, rfl, (nf xmo)⟩ (cf rfl) cHr (rs_of rfl) rfl rfl rfl ?_ | refine rdo_call (nm := 55) rfl ⟨_, _, rfl, rfl, (nf xmo)⟩ (cf rfl) cHy (rs_of rfl) rfl rfl rfl ?_ | refine rdo_call (nm := 55) rfl ⟨_, _, rfl, rfl, (nf xmo)⟩ (cf rfl) cHx (rs_of rfl) rfl rfl rfl ?_ | refine rdo_call (nm := 55) rfl ⟨_, _, rfl, rfl, (nf xmo)⟩ (cf rfl) cH0 (rs_of rfl) rfl rfl rfl ?_
   refine rdk_one 7 kr (rdo_call (nm := 57) rfl ⟨_, _, rfl, rfl, (nf xmo)⟩ (cf rfl) (c_w9Same _ _) (rs_of rfl) rfl rfl rfl (rdk_take 8 rfl kr ⟨_, _, rfl, rfl, (nf xmo)⟩ (q_not rfl) rfl (rk0 9 rfl (q_pick_f rfl (nf xmo) rfl) rfl (rk0 10 rfl (q_move rfl) rfl (rdk_take 11 rfl kr ⟨_, _, rfl, rfl, (nf eqN_refl)⟩ (q_load ttOk rfl) rfl (rdk_take 12 rfl kr ⟨_, _, rfl, rfl, (nf eqN_refl)⟩ (q_fieldAddr ttOk rfl) rfl (rdk_take 13 rfl kr ⟨_, _, rfl, rfl, (nf eqN_refl)⟩ (q_load ttOk rfl) rfl (rdk_take 15 rfl kr ⟨_, _, rfl, rfl, (nf eqN_refl)⟩ (q_load ttOk rfl) rfl (rdk_one 14 kr ?_)))))))))
   first | refine rdo_call (nm := 64) rfl ⟨_, _, rfl, rfl, (nf eqN_refl)⟩ (cf rfl) cT2 (rs_of rfl) rfl rfl rfl ?_ | refine rdo_call (nm := 64) rfl ⟨_, _, rfl, rfl, (nf eqN_refl)⟩ (cf rfl) cT1 (rs_of rfl) rfl rfl rfl ?_ | refine rdo_call (nm := 64) rfl ⟨_, _, rfl, rfl, (nf eqN_refl)⟩ (cf rfl) cT0 (rs_of rfl) rfl rfl rfl ?_
   refine rdk_one 16 kr ?_
   first | refine rdo_call (nm := 66) rfl ⟨_, _, rfl, rfl, (nf eqN_refl)⟩ (cf rfl) (c_SameLog' x x) (rs_of rfl) rfl rfl rfl ?_ | refine rdo_call (nm := 66) rfl ⟨_, _, rfl, rfl, (nf eqN_refl)⟩ (cf rfl) (c_SameLog' lg lg) (rs_of rfl) rfl rfl rfl ?_
   refine rdk_take 17 rfl kr ⟨_, _, rfl, rfl, (nf eqN_refl)⟩ (q_not rfl) rfl (rk0 18 rfl (q_pick_f rfl (nf eqN_refl) rfl) rfl (rdk_endq kr (et (ev_cond_kf rfl (nf sameL_refl) (ev_skip (et (sq (sq (rg (xm rfl rfl (xf ttOk rfl rfl (xf ttOk rfl rfl (xl ttOk rfl rfl (xb ttOk rfl rfl (xm rfl rfl (gm (decide_eq_false om) rfl rfl rfl rfl (go (decide_eq_false om) rfl rfl (q_fieldAddr ttOk rfl) rfl (go (decide_eq_false om) rfl rfl (q_fieldAddr ttOk rfl) rfl (go (decide_eq_false om) rfl rfl (q_load ttOk rfl) rfl (go (decide_eq_false om) rfl rfl (q_ar rfl rfl rfl om) rfl (gm (decide_eq_false om) rfl rfl rfl rfl ?_)))))))))))))))))))))
   first | refine go (decide_eq_false om) rfl rfl (q_len_rtm ttOk rfl rfl rfl) rfl ?_ | refine go (decide_eq_false om) rfl rfl (q_len_map ttOk rfl rfl) rfl ?_
   refine go (decide_eq_false om) rfl rfl (q_bin ttOk rfl) rfl (xo (q_pick_f rfl (decide_eq_false om) rfl) rfl (nl (et (ev_cond_kf rfl (decide_eq_false om) (ev_skip (et (sq (rg (xm rfl rfl (xm rfl rfl (xf ttOk rfl rfl (xf ttOk rfl rfl (xl ttOk rfl rfl (xa rfl rfl rfl om rfl (xo (q_sl_from_map (k := i + 1) ttOk rfl rfl rfl om om) rfl (xs rfl rfl (nl (et (sq (ev_drawdJ (α := LogN) (fun r => r.durable = lg.durable ∧ r.seen = lg.seen ∧ ((r.head.base = lg.head.base ∧ heldF r = lg.book.entries) ∨ (r.head.base = q ∧ heldF r = lg.book.entries.drop (i + 1)))) (fun r => (⟨[(4, pbV 4 0), (6, cV (entries lg.book.entries)), (7, iV q), (8, pbV 8 0), (9, cV (entries (lg.book.entries.drop (i + 1)))), (10, pbV 10 0), (11, .p false [.c (.v (.bool true))])], [(4, 55, [.rt 501, .rt 502, .rt 503, .rt 504, .c (iC lg.head.num), .c (iC lg.head.base), .c (iC lg.head.time), .rt 505, .c (iC lg.next.num), .c (iC lg.next.base), .c (iC lg.next.time), .rt 506, .c (bC lg.more), .c (iC lg.book.base), .c (iC lg.book.time), .rt 507, .rt 508, .c (iC lg.durable), .rt 509]), (8, 55, [.rt 601, .rt 602, .rt 603, .rt 604, .c (iC x.head.num), .c (iC x.head.base), .c (iC x.head.time), .rt 605, .c (iC x.next.num), .c (iC x.next.base), .c (iC x.next.time), .rt 606, .c (bC x.more), .c (iC x.book.base), .c (iC x.book.time), .rt 607, .rt 608, .c (iC x.durable), .rt 609]), (10, 55, [.rt 701, .rt 702, .rt 703, .rt 704, .c (iC r.head.num), .c (iC r.head.base), .c (iC r.head.time), .rt 705, .c (iC r.next.num), .c (iC r.next.base), .c (iC r.next.time), .rt 706, .c (bC r.more), .c (iC r.book.base), .c (iC r.book.time), .rt 707, .rt 708, .c (iC r.durable), .rt 709])], [(501, 74, 1, (lg.two.a.kept.map fun r => [ints r])), (502, 212, 2, (lg.two.a.wait.map fun x => [iC x.1, ints x.2])), (503, 74, 1, (lg.two.b.kept.map fun r => [ints r])), (504, 212, 2, (lg.two.b.wait.map fun x => [iC x.1, ints x.2])), (505, 94, 3, (lg.head.seen.map markC)), (506, 94, 3, (lg.next.seen.map markC)), (507, 80, 9, (lg.book.entries.map entryC)), (508, 94, 3, (lg.seen.map markC)), (509, 83, 4, (lg.owe.map ackC)), (601, 74, 1, (x.two.a.kept.map fun r => [ints r])), (602, 212, 2, (x.two.a.wait.map fun x => [iC x.1, ints x.2])), (603, 74, 1, (x.two.b.kept.map fun r => [ints r])), (604, 212, 2, (x.two.b.wait.map fun x => [iC x.1, ints x.2])), (605, 94, 3, (x.head.seen.map markC)), (606, 94, 3, (x.next.seen.map markC)), (607, 80, 9, (x.book.entries.map entryC)), (608, 94, 3, (x.seen.map markC)), (609, 83, 4, (x.owe.map ackC)), (701, 74, 1, (r.two.a.kept.map fun r => [ints r])), (702, 212, 2, (r.two.a.wait.map fun x => [iC x.1, ints x.2])), (703, 74, 1, (r.two.b.kept.map fun r => [ints r])), (704, 212, 2, (r.two.b.wait.map fun x => [iC x.1, ints x.2])), (705, 94, 3, (r.head.seen.map markC)), (706, 94, 3, (r.next.seen.map markC)), (707, 80, 9, (r.book.entries.map entryC)), (708, 94, 3, (r.seen.map markC)), (709, 83, 4, (r.owe.map ackC))], []⟩ : St)) [9] g mo ?_ ?_))))))))))))))))))))
   ·refine rdd_take 17 17 0 rfl kr trivial rfl rfl rfl rfl (q_load ttOk rfl) rfl rfl (rdd_pure 1 rfl kr trivial (qw_move rfl) rfl (rdd_2 2 8 kr ?_ ?_))
    ·refine rddo_roll (nm := 94) 17 rfl trivial rfl rfl (cf rfl) (c_w9Fates 2 om) rfl rfl hsrc (rs_of rfl) (fun _ => rfl) (fun x6 δ6 r6 => ?_)
     refine rdk rfl rfl rfl ?_
     have hF : x6.length ≤ 1048576 := by have := r6; omega
     obtain ⟨r, hr, r1, r2, r3⟩ := hfin x6
     have cF := c_FallenLog' x x6 hF
     have cR := c_RisenLog1 (fallenLogF x x6)
     rw [hr] at cR
     dsimp only at cR
     generalize fallenLogF x x6 = f at cF cR
     refine rdd_2 3 8 kr ?_ ?_
     ·refine rddo_call (nm := 95) rfl trivial (cf rfl) cF (rs_of rfl) rfl rfl rfl (rdd_2 4 8 kr ?_ ?_)
      ·refine rddo_call (nm := 96) rfl trivial (cf rfl) cR (rs_of rfl) rfl rfl rfl (rdd_pure 5 rfl kr trivial (qw_move rfl) rfl (rdd_pure 6 rfl kr trivial (qw_ext rfl) rfl (rdd_pure 7 rfl kr trivial (qw_ext rfl) rfl (rdd_1 8 kr (rddo_new rfl trivial (e_alloc ttOk rfl rfl rfl rfl) (rdd_1 9 kr (rddo_brk rfl kr trivial (e_store ttOk rfl) (rdd_pure 10 rfl kr trivial (qw_assign rfl) rfl ?_))))))))
       exact rdd_le r [(601, 49), (602, 1049), (603, 2049), (604, 3049), (605, 4049), (606, 5049), (607, 6049), (608, 7049), (609, 8049), (701, 96), (702, 1096), (703, 2096), (704, 3096), (705, 4096), (706, 5096), (707, 6096), (708, 7096), (709, 8096)] kr ⟨r1, r2, r3⟩ lei
      ·refine rddo_new rfl trivial (e_alloc ttOk rfl rfl rfl rfl) (rdd_1 4 kr (rddo_call (nm := 96) rfl trivial (cf rfl) cR (rs_of rfl) rfl rfl rfl (rdd_pure 5 rfl kr trivial (qw_move rfl) rfl (rdd_pure 6 rfl kr trivial (qw_ext rfl) rfl (rdd_pure 7 rfl kr trivial (qw_ext rfl) rfl (rdd_1 9 kr (rddo_brk rfl kr trivial (e_store ttOk rfl) (rdd_pure 10 rfl kr trivial (qw_assign rfl) rfl ?_))))))))
       exact rdd_le r [(601, 49), (602, 1049), (603, 2049), (604, 3049), (605, 4049), (606, 5049), (607, 6049), (608, 7049), (609, 8049), (701, 96), (702, 1096), (703, 2096), (704, 3096), (705, 4096), (706, 5096), (707, 6096), (708, 7096), (709, 8096)] kr ⟨r1, r2, r3⟩ lei
     ·refine rddo_new rfl trivial (e_alloc ttOk rfl rfl rfl rfl) (rdd_1 3 kr (rddo_call (nm := 95) rfl trivial (cf rfl) cF (rs_of rfl) rfl rfl rfl (rdd_1 4 kr (rddo_call (nm := 96) rfl trivial (cf rfl) cR (rs_of rfl) rfl rfl rfl (rdd_pure 5 rfl kr trivial (qw_move rfl) rfl (rdd_pure 6 rfl kr trivial (qw_ext rfl) rfl (rdd_pure 7 rfl kr trivial (qw_ext rfl) rfl (rdd_1 9 kr (rddo_brk rfl kr trivial (e_store ttOk rfl) (rdd_pure 10 rfl kr trivial (qw_assign rfl) rfl ?_))))))))))
      exact rdd_le r [(601, 49), (602, 1049), (603, 2049), (604, 3049), (605, 4049), (606, 5049), (607, 6049), (608, 7049), (609, 8049), (701, 96), (702, 1096), (703, 2096), (704, 3096), (705, 4096), (706, 5096), (707, 6096), (708, 7096), (709, 8096)] kr ⟨r1, r2, r3⟩ lei
    ·refine rddo_new rfl trivial (e_alloc ttOk rfl rfl rfl rfl) (rdd_1 2 kr (rddo_roll (nm := 94) 17 rfl trivial rfl rfl (cf rfl) (c_w9Fates 2 om) rfl rfl hsrc (rs_of rfl) (fun _ => rfl) (fun x7 δ7 r7 => ?_)))
     refine rdk rfl rfl rfl ?_
     have hF : x7.length ≤ 1048576 := by have := r7; omega
     obtain ⟨r, hr, r1, r2, r3⟩ := hfin x7
     have cF := c_FallenLog' x x7 hF
     have cR := c_RisenLog1 (fallenLogF x x7)
     rw [hr] at cR
     dsimp only at cR
     generalize fallenLogF x x7 = f at cF cR
     refine rdd_1 3 kr (rddo_call (nm := 95) rfl trivial (cf rfl) cF (rs_of rfl) rfl rfl rfl (rdd_1 4 kr (rddo_call (nm := 96) rfl trivial (cf rfl) cR (rs_of rfl) rfl rfl rfl (rdd_pure 5 rfl kr trivial (qw_move rfl) rfl (rdd_pure 6 rfl kr trivial (qw_ext rfl) rfl (rdd_pure 7 rfl kr trivial (qw_ext rfl) rfl (rdd_1 9 kr (rddo_brk rfl kr trivial (e_store ttOk rfl) (rdd_pure 10 rfl kr trivial (qw_assign rfl) rfl ?_)))))))))
     exact rdd_le r [(601, 49), (602, 1049), (603, 2049), (604, 3049), (605, 4049), (606, 5049), (607, 6049), (608, 7049), (609, 8049), (701, 96), (702, 1096), (703, 2096), (704, 3096), (705, 4096), (706, 5096), (707, 6096), (708, 7096), (709, 8096)] kr ⟨r1, r2, r3⟩ lei
   ·rintro r ⟨r1, r2, r3⟩
    have r5 : r.head.base = lg.head.base ∨ r.head.base = q := r3.elim (fun h => .inl h.1) (fun h => .inr h.1)
    have cHr := c_HeldIn' r
    show EvE _ _ _ (⟨[(4, pbV 4 0), (6, cV (entries lg.book.entries)), (7, iV q), (8, pbV 8 0), (9, cV (entries (lg.book.entries.drop (i + 1)))), (10, pbV 10 0), (11, .p false [.c (.v (.bool true))])], [(4, 55, [.rt 501, .rt 502, .rt 503, .rt 504, .c (iC lg.head.num), .c (iC lg.head.base), .c (iC lg.head.time), .rt 505, .c (iC lg.next.num), .c (iC lg.next.base), .c (iC lg.next.time), .rt 506, .c (bC lg.more), .c (iC lg.book.base), .c (iC lg.book.time), .rt 507, .rt 508, .c (iC lg.durable), .rt 509]), (8, 55, [.rt 601, .rt 602, .rt 603, .rt 604, .c (iC x.head.num), .c (iC x.head.base), .c (iC x.head.time), .rt 605, .c (iC x.next.num), .c (iC x.next.base), .c (iC x.next.time), .rt 606, .c (bC x.more), .c (iC x.book.base), .c (iC x.book.time), .rt 607, .rt 608, .c (iC x.durable), .rt 609]), (10, 55, [.rt 701, .rt 702, .rt 703, .rt 704, .c (iC r.head.num), .c (iC r.head.base), .c (iC r.head.time), .rt 705, .c (iC r.next.num), .c (iC r.next.base), .c (iC r.next.time), .rt 706, .c (bC r.more), .c (iC r.book.base), .c (iC r.book.time), .rt 707, .rt 708, .c (iC r.durable), .rt 709])], [(501, 74, 1, (lg.two.a.kept.map fun r => [ints r])), (502, 212, 2, (lg.two.a.wait.map fun x => [iC x.1, ints x.2])), (503, 74, 1, (lg.two.b.kept.map fun r => [ints r])), (504, 212, 2, (lg.two.b.wait.map fun x => [iC x.1, ints x.2])), (505, 94, 3, (lg.head.seen.map markC)), (506, 94, 3, (lg.next.seen.map markC)), (507, 80, 9, (lg.book.entries.map entryC)), (508, 94, 3, (lg.seen.map markC)), (509, 83, 4, (lg.owe.map ackC)), (601, 74, 1, (x.two.a.kept.map fun r => [ints r])), (602, 212, 2, (x.two.a.wait.map fun x => [iC x.1, ints x.2])), (603, 74, 1, (x.two.b.kept.map fun r => [ints r])), (604, 212, 2, (x.two.b.wait.map fun x => [iC x.1, ints x.2])), (605, 94, 3, (x.head.seen.map markC)), (606, 94, 3, (x.next.seen.map markC)), (607, 80, 9, (x.book.entries.map entryC)), (608, 94, 3, (x.seen.map markC)), (609, 83, 4, (x.owe.map ackC)), (701, 74, 1, (r.two.a.kept.map fun r => [ints r])), (702, 212, 2, (r.two.a.wait.map fun x => [iC x.1, ints x.2])), (703, 74, 1, (r.two.b.kept.map fun r => [ints r])), (704, 212, 2, (r.two.b.wait.map fun x => [iC x.1, ints x.2])), (705, 94, 3, (r.head.seen.map markC)), (706, 94, 3, (r.next.seen.map markC)), (707, 80, 9, (r.book.entries.map entryC)), (708, 94, 3, (r.seen.map markC)), (709, 83, 4, (r.owe.map ackC))], []⟩ : St)
    refine et (sq (rg (xl ttOk rfl rfl ?_)))
    first | refine evl_call (nm := 101) (cf rfl) cSx (rs_of rfl) rfl rfl rfl ?_ | refine evl_call (nm := 101) (cf rfl) cS0 (rs_of rfl) rfl rfl rfl ?_
    refine xm rfl rfl (xo (q_ext rfl) rfl (xo (q_ext rfl) rfl (evl_e (e_alloc ttOk rfl rfl rfl rfl) (xst ttOk rfl rfl (xs rfl rfl (nl (et (sq (sq (rg (xm rfl rfl (xo (q_not rfl) rfl (xm rfl rfl (go rfl rfl rfl (q_fieldAddr ttOk rfl) rfl (go rfl rfl rfl (q_fieldAddr ttOk rfl) rfl (go rfl rfl rfl (q_load ttOk rfl) rfl (go rfl rfl rfl (q_fieldAddr ttOk rfl) rfl (go rfl rfl rfl (q_fieldAddr ttOk rfl) rfl (go rfl rfl rfl (q_load ttOk rfl) rfl (go rfl rfl rfl (q_bin ttOk rfl) rfl (gm rfl rfl rfl rfl rfl (evl_part rfl rfl (fun h8 => ?_) (fun h8 => ?_)))))))))))))))))))))))
    ·try have d8 := of_decide_eq_true h8
     have r4 := (r3.resolve_left (fun h => absurd h.1 om)).2
     refine go h8 rfl rfl (q_fieldAddr ttOk rfl) rfl (go h8 rfl rfl (q_fieldAddr ttOk rfl) rfl (go h8 rfl rfl (q_load ttOk rfl) rfl (gm h8 rfl rfl rfl rfl (go h8 rfl rfl (q_bin ttOk rfl) rfl (go rfl rfl rfl (q_pick_t rfl h8 rfl) rfl (xo (q_pick_f rfl rfl rfl) rfl (xm rfl rfl (go (decide_eq_false om) rfl rfl (q_fieldAddr ttOk rfl) rfl (go (decide_eq_false om) rfl rfl (q_fieldAddr ttOk rfl) rfl (go (decide_eq_false om) rfl rfl (q_load ttOk rfl) rfl (gm (decide_eq_false om) rfl rfl rfl rfl (go (decide_eq_false om) rfl rfl (q_bin ttOk rfl) rfl (xo (q_pick_f rfl (decide_eq_false om) rfl) rfl (xm rfl rfl (go (decide_eq_false om) rfl rfl (q_fieldAddr ttOk rfl) rfl (go (decide_eq_false om) rfl rfl (q_load ttOk rfl) rfl (go (decide_eq_false om) rfl rfl (q_fieldAddr ttOk rfl) rfl (go (decide_eq_false om) rfl rfl (q_load ttOk rfl) rfl (go (decide_eq_false om) rfl rfl (q_bin ttOk rfl) rfl (xo (q_pick_f rfl (decide_eq_false om) rfl) rfl (xm rfl rfl (go (decide_eq_false om) rfl rfl (q_fieldAddr ttOk rfl) rfl (go (decide_eq_false om) rfl rfl (q_load ttOk rfl) rfl (go (decide_eq_false om) rfl rfl (q_fieldAddr ttOk rfl) rfl (go (decide_eq_false om) rfl rfl (q_load ttOk rfl) rfl (go (decide_eq_false om) rfl rfl (q_bin ttOk rfl) rfl (xo (q_pick_f rfl (decide_eq_false om) rfl) rfl (nl (et (ev_cond_kf rfl (decide_eq_false om) (ev_skip (et (sq (sq (rg (xf ttOk rfl rfl (xf ttOk rfl rfl (xl ttOk rfl rfl (xm rfl rfl (xb ttOk rfl rfl (nl (et (ev_cond_kt rfl (decide_eq_true om) (rg (xm rfl rfl (xs rfl rfl (nl (et (sq (rg ?_))))))))))))))))))))))))))))))))))))))))))))))))))
     refine xl ttOk rfl rfl ?_
     first | refine evl_call (nm := 150) (cf rfl) cHr (rs_of rfl) rfl rfl rfl ?_ | refine evl_call (nm := 150) (cf rfl) cHy (rs_of rfl) rfl rfl rfl ?_ | refine evl_call (nm := 150) (cf rfl) cHx (rs_of rfl) rfl rfl rfl ?_ | refine evl_call (nm := 150) (cf rfl) cH0 (rs_of rfl) rfl rfl rfl ?_
     refine xm rfl rfl (evl_call (nm := 152) (cf rfl) (c_w9Same _ _) (rs_of rfl) rfl rfl rfl (xm rfl rfl (go (by rw [r4]; exact eqN_refl) rfl rfl (q_load ttOk rfl) rfl ?_)))
     first | refine evl_callg rfl rfl (by rw [r4]; exact eqN_refl) (nm := 155) (cf rfl) cHr (rs_of rfl) rfl rfl rfl ?_ | refine evl_callg rfl rfl (by rw [r4]; exact eqN_refl) (nm := 155) (cf rfl) cHy (rs_of rfl) rfl rfl rfl ?_ | refine evl_callg rfl rfl (by rw [r4]; exact eqN_refl) (nm := 155) (cf rfl) cHx (rs_of rfl) rfl rfl rfl ?_ | refine evl_callg rfl rfl (by rw [r4]; exact eqN_refl) (nm := 155) (cf rfl) cH0 (rs_of rfl) rfl rfl rfl ?_
     refine gm (by rw [r4]; exact eqN_refl) rfl rfl rfl rfl (evl_callg rfl rfl (by rw [r4]; exact eqN_refl) (nm := 157) (cf rfl) (c_w9Same _ _) (rs_of rfl) rfl rfl rfl (xo (q_pick_t rfl (by rw [r4]; exact eqN_refl) rfl) rfl (xm rfl rfl (go eqN_refl rfl rfl (q_fieldAddr ttOk rfl) rfl (go eqN_refl rfl rfl (q_load ttOk rfl) rfl (go eqN_refl rfl rfl (q_fieldAddr ttOk rfl) rfl (go eqN_refl rfl rfl (q_load ttOk rfl) rfl ?_)))))))
     first | refine evl_callg rfl rfl eqN_refl (nm := 164) (cf rfl) (c_SameSeen' r.seen lg.seen) (rs_of rfl) rfl rfl rfl ?_ | refine evl_callg rfl rfl eqN_refl (nm := 164) (cf rfl) (c_SameSeen' y.seen lg.seen) (rs_of rfl) rfl rfl rfl ?_
     refine xo (q_pick_t rfl eqN_refl rfl) rfl (xm rfl rfl (go (by rw [r2]; exact eqN_refl) rfl rfl (q_fieldAddr ttOk rfl) rfl (go (by rw [r2]; exact eqN_refl) rfl rfl (q_load ttOk rfl) rfl (go (by rw [r2]; exact eqN_refl) rfl rfl (q_fieldAddr ttOk rfl) rfl (go (by rw [r2]; exact eqN_refl) rfl rfl (q_load ttOk rfl) rfl ?_)))))
     first | refine evl_callg rfl rfl (by rw [r2]; exact eqN_refl) (nm := 171) (cf rfl) (c_SameSeen' r.seen lg.seen) (rs_of rfl) rfl rfl rfl ?_ | refine evl_callg rfl rfl (by rw [r2]; exact eqN_refl) (nm := 171) (cf rfl) (c_SameSeen' y.seen lg.seen) (rs_of rfl) rfl rfl rfl ?_
     refine xo (q_pick_t rfl (by rw [r2]; exact eqN_refl) rfl) rfl (xs rfl rfl (nl (et (ev_ret ?_))))
     exact ret_lawH hg ttOk rfl rfl (show eqN Mark.nums y.seen lg.seen = true by rw [y4]; exact eqN_refl)
    ·try have d8 := of_decide_eq_false h8
     have r4 := (r3.resolve_right (fun h => absurd h.1 om)).2
     refine gn h8 rfl rfl rfl (gn h8 rfl rfl rfl (gn h8 rfl rfl rfl (gn h8 rfl rfl rfl (gn h8 rfl rfl rfl (go rfl rfl rfl (q_pick_f rfl h8 rfl) rfl (xo (q_pick_f rfl rfl rfl) rfl (xm rfl rfl (go rfl rfl rfl (q_fieldAddr ttOk rfl) rfl (go rfl rfl rfl (q_fieldAddr ttOk rfl) rfl (go rfl rfl rfl (q_load ttOk rfl) rfl (gm rfl rfl rfl rfl rfl (go rfl rfl rfl (q_bin ttOk rfl) rfl (xo (q_pick_f rfl rfl rfl) rfl (xm rfl rfl (go (decide_eq_false om) rfl rfl (q_fieldAddr ttOk rfl) rfl (go (decide_eq_false om) rfl rfl (q_load ttOk rfl) rfl (go (decide_eq_false om) rfl rfl (q_fieldAddr ttOk rfl) rfl (go (decide_eq_false om) rfl rfl (q_load ttOk rfl) rfl (go (decide_eq_false om) rfl rfl (q_bin ttOk rfl) rfl (xo (q_pick_f rfl (decide_eq_false om) rfl) rfl (xm rfl rfl (go (decide_eq_false om) rfl rfl (q_fieldAddr ttOk rfl) rfl (go (decide_eq_false om) rfl rfl (q_load ttOk rfl) rfl (go (decide_eq_false om) rfl rfl (q_fieldAddr ttOk rfl) rfl (go (decide_eq_false om) rfl rfl (q_load ttOk rfl) rfl (go (decide_eq_false om) rfl rfl (q_bin ttOk rfl) rfl (xo (q_pick_f rfl (decide_eq_false om) rfl) rfl (nl (et (ev_cond_kf rfl (decide_eq_false om) (ev_skip (et (sq (sq (rg (xf ttOk rfl rfl (xf ttOk rfl rfl (xl ttOk rfl rfl (xm rfl rfl (xb ttOk rfl rfl (nl (et (ev_cond_kf rfl (decide_eq_false om) (ev_skip (et (sq (rg (xl ttOk rfl rfl ?_))))))))))))))))))))))))))))))))))))))))))))))))
     first | refine evl_call (nm := 150) (cf rfl) cHr (rs_of rfl) rfl rfl rfl ?_ | refine evl_call (nm := 150) (cf rfl) cHy (rs_of rfl) rfl rfl rfl ?_ | refine evl_call (nm := 150) (cf rfl) cHx (rs_of rfl) rfl rfl rfl ?_ | refine evl_call (nm := 150) (cf rfl) cH0 (rs_of rfl) rfl rfl rfl ?_
     refine xm rfl rfl (evl_call (nm := 152) (cf rfl) (c_w9Same _ _) (rs_of rfl) rfl rfl rfl (xm rfl rfl (go (by rw [r4]; exact eqN_refl) rfl rfl (q_load ttOk rfl) rfl ?_)))
     first | refine evl_callg rfl rfl (by rw [r4]; exact eqN_refl) (nm := 155) (cf rfl) cHr (rs_of rfl) rfl rfl rfl ?_ | refine evl_callg rfl rfl (by rw [r4]; exact eqN_refl) (nm := 155) (cf rfl) cHy (rs_of rfl) rfl rfl rfl ?_ | refine evl_callg rfl rfl (by rw [r4]; exact eqN_refl) (nm := 155) (cf rfl) cHx (rs_of rfl) rfl rfl rfl ?_ | refine evl_callg rfl rfl (by rw [r4]; exact eqN_refl) (nm := 155) (cf rfl) cH0 (rs_of rfl) rfl rfl rfl ?_
     refine gm (by rw [r4]; exact eqN_refl) rfl rfl rfl rfl (evl_callg rfl rfl (by rw [r4]; exact eqN_refl) (nm := 157) (cf rfl) (c_w9Same _ _) (rs_of rfl) rfl rfl rfl (xo (q_pick_t rfl (by rw [r4]; exact eqN_refl) rfl) rfl (xm rfl rfl (go eqN_refl rfl rfl (q_fieldAddr ttOk rfl) rfl (go eqN_refl rfl rfl (q_load ttOk rfl) rfl (go eqN_refl rfl rfl (q_fieldAddr ttOk rfl) rfl (go eqN_refl rfl rfl (q_load ttOk rfl) rfl ?_)))))))
     first | refine evl_callg rfl rfl eqN_refl (nm := 164) (cf rfl) (c_SameSeen' r.seen lg.seen) (rs_of rfl) rfl rfl rfl ?_ | refine evl_callg rfl rfl eqN_refl (nm := 164) (cf rfl) (c_SameSeen' y.seen lg.seen) (rs_of rfl) rfl rfl rfl ?_
     refine xo (q_pick_t rfl eqN_refl rfl) rfl (xm rfl rfl (go (by rw [r2]; exact eqN_refl) rfl rfl (q_fieldAddr ttOk rfl) rfl (go (by rw [r2]; exact eqN_refl) rfl rfl (q_load ttOk rfl) rfl (go (by rw [r2]; exact eqN_refl) rfl rfl (q_fieldAddr ttOk rfl) rfl (go (by rw [r2]; exact eqN_refl) rfl rfl (q_load ttOk rfl) rfl ?_)))))
     first | refine evl_callg rfl rfl (by rw [r2]; exact eqN_refl) (nm := 171) (cf rfl) (c_SameSeen' r.seen lg.seen) (rs_of rfl) rfl rfl rfl ?_ | refine evl_callg rfl rfl (by rw [r2]; exact eqN_refl) (nm := 171) (cf rfl) (c_SameSeen' y.seen lg.seen) (rs_of rfl) rfl rfl rfl ?_
     refine xo (q_pick_t rfl (by rw [r2]; exact eqN_refl) rfl) rfl (xs rfl rfl (nl (et (ev_ret ?_))))
     exact ret_lawH hg ttOk rfl rfl (show eqN Mark.nums y.seen lg.seen = true by rw [y4]; exact eqN_refl)
end Go.Proofs.YtinmcdcmidlgpaaGreatDoor
