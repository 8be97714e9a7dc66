/- Walks of functions of the program, printed by a program of the prover. -/
import Derived.Test.YtinmcdcmidlgpaaGreatDoorDeF66
import Derived.Test.YtinmcdcmidlgpaaGreatDoorDeF57
import Derived.Test.YtinmcdcmidlgpaaGreatDoorDeF61
import Derived.Test.YtinmcdcmidlgpaaGreatDoorDeF48
import Derived.Test.YtinmcdcmidlgpaaGreatDoorDeF46
import Derived.Test.YtinmcdcmidlgpaaGreatDoorDeF24
namespace Go.Proofs.YtinmcdcmidlgpaaGreatDoor
open Go.ChangeShapes Go.WideShapes Go.ChangeAt Go.RowKit
set_option linter.unusedVariables false
set_option linter.unusedSimpArgs false
set_option maxHeartbeats 1000000
set_option maxRecDepth 100000
attribute [local irreducible] EvL Ev EvE Quiet Eff Pure RDk RDb RDo
theorem c_RisenLog1 (n : LogN) : Pure Tryz.prog 33 [many (logC n)] [many' (logR ((risenF n.two).1)), one' (RC.v (.bool ((risenF n.two).2)))] := by
 refine pure_intro (N := 36) Tryz.func33 rfl rfl rfl rfl (fun H w => ?_)
 have c1 := c_Recovered' n.two
 have hr1 := rec_head (t := n.two)
 have hri1 := ri_no (t := n.two)
 have hri2 := ri_yes (t := n.two)
 have hrs := rec_small n.two
 generalize recF n.two = rr at c1 hr1 hri1 hri2 hrs
 refine sq (rg (evl_e (e_box rfl rfl rfl rfl) (evl_e (e_alloc ttOk rfl rfl rfl rfl) (xs rfl rfl (nl (et (sq (rg (xf ttOk rfl rfl (xl ttOk rfl rfl (evl_call (nm := 13) (cf rfl) c1 (rs_of rfl) rfl rfl rfl (xm rfl rfl (xo (q_ext rfl) rfl (xo (q_ext rfl) rfl (xo (q_ext rfl) rfl (xo (q_ext rfl) rfl (evl_e (e_alloc ttOk rfl rfl rfl rfl) (evl_e (e_alloc ttOk rfl rfl rfl rfl) (evl_e (e_alloc ttOk rfl rfl rfl rfl) (xst ttOk rfl rfl (xst ttOk rfl rfl (xst ttOk rfl rfl (xs rfl rfl (nl (et (sq (sq (rg (xm rfl rfl (xo (q_not rfl) rfl (nl (et (ev_cond_n rfl (fun h1 => ?_) (fun h1 => ?_))))))))))))))))))))))))))))))))))
 ·refine sq (rg (xo (q_build ttOk rfl) rfl (xst ttOk rfl rfl (xs rfl rfl (nl (et (ev_ret (evr_then (ret_pureN ttOk rfl rfl ?_)))))))))
  first
  | (rw [hri1 ‹_›]; simp [RpLe, L2, RcLe, zeroL, zeroD, zeroT, noHead]; done)
  | (rw [hri2 ‹_›]; simp [RpLe, L2, RcLe, noHead]; done)
 ·refine ev_skip (et (sq (rg (xf ttOk rfl rfl (xl ttOk rfl rfl (xf ttOk rfl rfl (xl ttOk rfl rfl (evl_call (nm := 26) (cf rfl) (c_SeenOver' rr.2.1.seen rr.2.2.1.entries) (rs_of rfl) rfl rfl rfl (xm rfl rfl (xo (q_ext rfl) rfl (xo (q_ext rfl) rfl (xs rfl rfl (xs rfl rfl (nl (et (sq (ev_drawq [7] mo (rk0 0 rfl (q_load ttOk rfl) rfl (rk0 1 rfl (q_load ttOk rfl) rfl (rk0 2 rfl (q_load ttOk rfl) rfl (rk0 3 rfl (q_move rfl) rfl (rk0 4 rfl (q_load ttOk rfl) rfl (rdk_one 5 kr (rdo_call (nm := 34) rfl trivial (cf rfl) (c_lastOf rr.2.2.1 (hr1 ‹_›).2.1) (rs_of rfl) rfl rfl rfl (rk0 6 rfl (q_build ttOk rfl) rfl (rdk_one 7 kr (rdo_brk rfl rfl trivial (e_store ttOk rfl) (rdb_q 8 rfl kr trivial (q_assign rfl) rfl (rdb_endq kr (et (ev_ret (ret_pureN ttOk rfl rfl ?_))))))))))))))))))))))))))))))))
  first
  | (rw [hri1 ‹_›]; simp [RpLe, L2, RcLe, zeroL, zeroD, zeroT, noHead]; done)
  | (rw [hri2 ‹_›]; simp [RpLe, L2, RcLe, noHead]; done)
theorem Lg.ask1 {n : LogN} {k : Nat} (h : Lg k n) {a : Ask} {now : Int} (ha : askOkF a = true) (hn : 0 ≤ now ∧ now < 1000) (hk : k < 19) : logOkF n = true → askOkF a = true → timeOk now = true → a.seq > (findM n.seen a.client).seq → takesA n (entA n a now) = true :=
 fun _ _ h2 _ => h.takes ha h2 om (by have := h.len; have := h.last; omega)
theorem time_small {now : Int} (hn : 0 ≤ now ∧ now < 1000) : timeOk now = true := inB_iff.2 ⟨by omega, by omega⟩
theorem Lg.ask2 {n : LogN} {k : Nat} (h : Lg k n) {a : Ask} {now : Int} (ha : askOkF a = true) (hn : 0 ≤ now ∧ now < 1000) (hk : k < 19) (hq : a.seq ≤ 10 + k) : Lg (k + 1) (askedF n a now).1 := h.ask ha (time_small hn) om (by have := h.len; have := h.last; omega) hq
theorem Lg.bd {n : LogN} {k : Nat} (h : Lg k n) : 0 ≤ n.head.base ∧ n.head.base ≤ 2000 := (head_nums h.j.parts.2.1).2.1
theorem c_w9Log (m : Nat) (hm : m ≤ 18) : Rolls Tryz.prog 135 37 [one (iC m)] (α := LogN) (fun n => Lg m n) (fun n => [many' (logR n)]) := by
 refine rolls_intro (N := 64) Tryz.func37 rfl rfl rfl rfl (fun H w g v0 bn δ0 hsrc => ?_)
 refine sq (rg (evl_e (e_alloc ttOk rfl rfl rfl rfl) (nl (et (sq (rg (evl_call (nm := 6) (cf rfl) c_NewLog' (rs_of rfl) rfl rfl rfl (evl_e (e_alloc ttOk rfl rfl rfl rfl) (xst ttOk rfl rfl (nl (et (sq (ev_blk (ev_loop (fun i : Nat × Int × LogN × DS bn => (⟨[(0, pbV 0 0), (1, iV i.2.1), (4, pbV 4 0), (5, pbV 5 0)], [(5, 55, [.rt 101, .rt 102, .rt 103, .rt 104, .c (iC i.2.2.1.head.num), .c (iC i.2.2.1.head.base), .c (iC i.2.2.1.head.time), .rt 105, .c (iC i.2.2.1.next.num), .c (iC i.2.2.1.next.base), .c (iC i.2.2.1.next.time), .rt 106, .c (bC i.2.2.1.more), .c (iC i.2.2.1.book.base), .c (iC i.2.2.1.book.time), .rt 107, .rt 108, .c (iC i.2.2.1.durable), .rt 109]), (4, 55, [.c .nil, .c .nil, .c .nil, .c .nil, .c (iC 0), .c (iC 0), .c (iC 0), .c .nil, .c (iC 0), .c (iC 0), .c (iC 0), .c .nil, .c (bC false), .c (iC 0), .c (iC 0), .c .nil, .c .nil, .c (iC 0), .c .nil]), (0, 135, diceA v0 i.2.2.2)], [(101, 74, 1, (i.2.2.1.two.a.kept.map fun r => [ints r])), (102, 212, 2, (i.2.2.1.two.a.wait.map fun x => [iC x.1, ints x.2])), (103, 74, 1, (i.2.2.1.two.b.kept.map fun r => [ints r])), (104, 212, 2, (i.2.2.1.two.b.wait.map fun x => [iC x.1, ints x.2])), (105, 94, 3, (i.2.2.1.head.seen.map markC)), (106, 94, 3, (i.2.2.1.next.seen.map markC)), (107, 80, 9, (i.2.2.1.book.entries.map entryC)), (108, 94, 3, (i.2.2.1.seen.map markC)), (109, 83, 4, (i.2.2.1.owe.map ackC))], []⟩ : St)) (fun i => i.2.1 = (m : Int) - i.1 ∧ i.1 ≤ m ∧ Lg i.1 i.2.2.1) (fun i => m - i.1) (0, m, newLogF, δ0) [(101, 6), (102, 1006), (103, 2006), (104, 3006), (105, 4006), (106, 5006), (107, 6006), (108, 7006), (109, 8006)] (⟨by simp, by simp, newLg⟩) ⟨trf, trf, ⟨⟨_, rfl, by rfl⟩, ⟨_, rfl, by rfl⟩, ⟨_, rfl, by rfl⟩, ⟨_, rfl, by rfl⟩, ⟨_, rfl, by rfl⟩, ⟨_, rfl, by rfl⟩, ⟨_, rfl, by rfl⟩, ⟨_, rfl, by rfl⟩, ⟨_, rfl, by rfl⟩, trivial⟩, tre, rfl⟩ ?_))))))))))))))
 intro i hp
 obtain ⟨k, z, lg, δ⟩ := i
 have hp : z = (m : Int) - k ∧ k ≤ m ∧ Lg k lg := hp
 obtain ⟨p0, p1, p2⟩ := hp
 show Ev _ _ _ _ (⟨[(0, pbV 0 0), (1, iV z), (4, pbV 4 0), (5, pbV 5 0)], [(5, 55, [.rt 101, .rt 102, .rt 103, .rt 104, .c (iC lg.head.num), .c (iC lg.head.base), .c (iC lg.head.time), .rt 105, .c (iC lg.next.num), .c (iC lg.next.base), .c (iC lg.next.time), .rt 106, .c (bC lg.more), .c (iC lg.book.base), .c (iC lg.book.time), .rt 107, .rt 108, .c (iC lg.durable), .rt 109]), (4, 55, [.c .nil, .c .nil, .c .nil, .c .nil, .c (iC 0), .c (iC 0), .c (iC 0), .c .nil, .c (iC 0), .c (iC 0), .c (iC 0), .c .nil, .c (bC false), .c (iC 0), .c (iC 0), .c .nil, .c .nil, .c (iC 0), .c .nil]), (0, 135, diceA v0 δ)], [(101, 74, 1, (lg.two.a.kept.map fun r => [ints r])), (102, 212, 2, (lg.two.a.wait.map fun x => [iC x.1, ints x.2])), (103, 74, 1, (lg.two.b.kept.map fun r => [ints r])), (104, 212, 2, (lg.two.b.wait.map fun x => [iC x.1, ints x.2])), (105, 94, 3, (lg.head.seen.map markC)), (106, 94, 3, (lg.next.seen.map markC)), (107, 80, 9, (lg.book.entries.map entryC)), (108, 94, 3, (lg.seen.map markC)), (109, 83, 4, (lg.owe.map ackC))], []⟩ : St)
 have hbd := p2.bd
 refine sq (sq (rg (xm rfl rfl (xb ttOk rfl rfl (nl (et (ev_cond rfl (fun h1 => ?_) (fun h1 => ?_))))))))
 ·try have d1 := of_decide_eq_true h1
  refine ev_skip (et (sq (ev_blk (sq (rg (xm rfl rfl (evl_roll (nm := 12) (cf rfl) (c_below _ om) rfl rfl hsrc (rs_of rfl) (fun _ => rfl) (fun x2 δ2 r2 => ?_))))))))
  refine rlk rfl rfl rfl ?_
  obtain ⟨r2a, r2b⟩ := r2
  refine nl (et (ev_blk (sq (sq (rg (xb ttOk rfl rfl (xs rfl rfl (nl (et (ev_cond rfl (fun h3 => ?_) (fun h3 => ?_)))))))))))
  ·try have d3 := of_decide_eq_true h3
   refine ev_skip (et (ev_cond_kt rfl h3 (rg (xl ttOk rfl rfl (evl_call (nm := 28) (cf rfl) (c_SyncedLog' lg) (rs_of rfl) rfl rfl rfl (xm rfl rfl (xo (q_ext rfl) rfl (xo (q_ext rfl) rfl (xst ttOk rfl rfl (nl (eb (eb (et (rg (xm rfl rfl (xa rfl rfl rfl om rfl (xs rfl rfl (nl (eve_round (k + 1, z - 1, (syncedF lg).1, δ2) [(101, 28), (102, 1028), (103, 2028), (104, 3028), (105, 4028), (106, 5028), (107, 6028), (108, 7028), (109, 8028)] ?hp ⟨trf, trf, ⟨⟨_, rfl, rfl⟩, ⟨_, rfl, rfl⟩, ⟨_, rfl, rfl⟩, ⟨_, rfl, rfl⟩, ⟨_, rfl, rfl⟩, ⟨_, rfl, rfl⟩, ⟨_, rfl, rfl⟩, ⟨_, rfl, rfl⟩, ⟨_, rfl, rfl⟩, trivial⟩, tre, rfl⟩)))))))))))))))))))
   case hp => exact ⟨⟨by dsimp only; omega, by omega, p2.sync.mono om⟩, by omega⟩
  ·try have d3 := of_decide_eq_false h3
   refine rg (xb ttOk rfl rfl (xs rfl rfl (nl (et (ev_cond rfl (fun h4 => ?_) (fun h4 => ?_))))))
   ·try have d4 := of_decide_eq_true h4
    refine rg (xl ttOk rfl rfl (evl_call (nm := 28) (cf rfl) (c_SyncedLog' lg) (rs_of rfl) rfl rfl rfl (xm rfl rfl (xo (q_ext rfl) rfl (xo (q_ext rfl) rfl (xst ttOk rfl rfl (nl (eb (eb (et (rg (xm rfl rfl (xa rfl rfl rfl om rfl (xs rfl rfl (nl (eve_round (k + 1, z - 1, (syncedF lg).1, δ2) [(101, 28), (102, 1028), (103, 2028), (104, 3028), (105, 4028), (106, 5028), (107, 6028), (108, 7028), (109, 8028)] ?hp ⟨trf, trf, ⟨⟨_, rfl, rfl⟩, ⟨_, rfl, rfl⟩, ⟨_, rfl, rfl⟩, ⟨_, rfl, rfl⟩, ⟨_, rfl, rfl⟩, ⟨_, rfl, rfl⟩, ⟨_, rfl, rfl⟩, ⟨_, rfl, rfl⟩, ⟨_, rfl, rfl⟩, trivial⟩, tre, rfl⟩))))))))))))))))
    case hp => exact ⟨⟨by dsimp only; omega, by omega, p2.sync.mono om⟩, by omega⟩
   ·try have d4 := of_decide_eq_false h4
    refine sq (rg (xb ttOk rfl rfl (xs rfl rfl (nl (et (ev_cond rfl (fun h5 => ?_) (fun h5 => ?_)))))))
    ·try have d5 := of_decide_eq_true h5
     refine ev_drawd [9] g mo (rdd_take 0 0 0 rfl kr trivial rfl rfl rfl rfl (q_load ttOk rfl) rfl rfl (rdd_pure 1 rfl kr trivial (qw_fieldAddr ttOk rfl) rfl (rdd_pure 2 rfl kr trivial (qw_fieldAddr ttOk rfl) rfl (rdd_take 0 0 3 rfl kr trivial rfl rfl rfl rfl (q_load ttOk rfl) rfl rfl (rdd_pure 4 rfl kr trivial (qw_ar rfl rfl rfl om) rfl (rdd_pure 5 rfl kr trivial (qw_move rfl) rfl (rdd_1 6 kr (rddo_roll (nm := 39) 0 rfl trivial rfl rfl (cf rfl) (c_below _ om) rfl rfl hsrc (rs_of rfl) (fun _ => rfl) (fun x6 δ6 r6 => ?_)))))))))
     refine rdk rfl rfl rfl ?_
     obtain ⟨r6a, r6b⟩ := r6
     refine rdd_pure 7 rfl kr trivial (qw_ar rfl rfl rfl om) rfl (rdd_1 8 kr (rddo_call (nm := 41) rfl trivial (cf rfl) (c_TrimAsked' lg _) (rs_of rfl) rfl rfl rfl (rdd_1 9 kr (rddo_brk rfl kr trivial (e_store ttOk rfl) (rdd_endq kr (eb (eb (et (rg (xm rfl rfl (xa rfl rfl rfl om rfl (xs rfl rfl (nl (eve_round (k + 1, z - 1, trimAskedF lg (lg.head.base + 1 + x6), δ6) [(101, 41), (102, 1041), (103, 2041), (104, 3041), (105, 4041), (106, 5041), (107, 6041), (108, 7041), (109, 8041)] ?hp ⟨trf, trf, ⟨⟨_, rfl, rfl⟩, ⟨_, rfl, rfl⟩, ⟨_, rfl, rfl⟩, ⟨_, rfl, rfl⟩, ⟨_, rfl, rfl⟩, ⟨_, rfl, rfl⟩, ⟨_, rfl, rfl⟩, ⟨_, rfl, rfl⟩, ⟨_, rfl, rfl⟩, trivial⟩, tre, rfl⟩))))))))))))))
     case hp => exact ⟨⟨by dsimp only; omega, by omega, (p2.trim _).mono om⟩, by omega⟩
    ·try have d5 := of_decide_eq_false h5
     refine sq (rg (xb ttOk rfl rfl (xs rfl rfl (nl (et (ev_cond rfl (fun h7 => ?_) (fun h7 => ?_)))))))
     ·try have d7 := of_decide_eq_true h7
      refine ev_drawd [8] g mo (rdd_take 0 0 0 rfl kr trivial rfl rfl rfl rfl (q_load ttOk rfl) rfl rfl (rdd_pure 1 rfl kr trivial (qw_move rfl) rfl (rdd_1 2 kr (rddo_roll (nm := 47) 0 rfl trivial rfl rfl (cf rfl) (c_w9Fates 20 om) rfl rfl hsrc (rs_of rfl) (fun _ => rfl) (fun x8 δ8 r8 => ?_)))))
      refine rdk rfl rfl rfl (rdd_1 3 kr (rddo_call (nm := 48) rfl trivial (cf rfl) (c_FallenLog' lg _ om) (rs_of rfl) rfl rfl rfl (rdd_1 4 kr (rddo_call (nm := 49) rfl trivial (cf rfl) (c_RisenLog1 (fallenLogF lg _)) (rs_of rfl) rfl rfl rfl (rdd_pure 5 rfl kr trivial (qw_move rfl) rfl (rdd_pure 6 rfl kr trivial (qw_ext rfl) rfl (rdd_pure 7 rfl kr trivial (qw_ext rfl) rfl (rdd_1 8 kr (rddo_brk rfl kr trivial (e_store ttOk rfl) (rdd_endq kr (eb (eb (et (rg (xm rfl rfl (xa rfl rfl rfl om rfl (xs rfl rfl (nl (eve_round (k + 1, z - 1, (risenF (fallenLogF lg x8).two).1, δ8) [(101, 49), (102, 1049), (103, 2049), (104, 3049), (105, 4049), (106, 5049), (107, 6049), (108, 7049), (109, 8049)] ?hp ⟨trf, trf, ⟨⟨_, rfl, rfl⟩, ⟨_, rfl, rfl⟩, ⟨_, rfl, rfl⟩, ⟨_, rfl, rfl⟩, ⟨_, rfl, rfl⟩, ⟨_, rfl, rfl⟩, ⟨_, rfl, rfl⟩, ⟨_, rfl, rfl⟩, ⟨_, rfl, rfl⟩, trivial⟩, tre, rfl⟩)))))))))))))))))))
      case hp => exact ⟨⟨by dsimp only; omega, by omega, (p2.rise _).mono om⟩, by omega⟩
     ·try have d7 := of_decide_eq_false h7
      refine sq (rg (xb ttOk rfl rfl (xs rfl rfl (nl (et (ev_cond rfl (fun h9 => ?_) (fun h9 => ?_)))))))
      ·try have d9 := of_decide_eq_true h9
       refine ev_drawd [9] g mo (rdd_take 0 0 0 rfl kr trivial rfl rfl rfl rfl (q_load ttOk rfl) rfl rfl (rdd_pure 1 rfl kr trivial (qw_move rfl) rfl (rdd_pure 3 rfl kr trivial (qw_move rfl) rfl (rdd_1 2 kr (rddo_roll (nm := 57) 0 rfl trivial rfl rfl (cf rfl) c_w9Ask rfl rfl hsrc (rs_of rfl) (fun _ => rfl) (fun x10 δ10 r10 => ?_))))))
       refine rdk rfl rfl rfl ?_
       have hao : askOkF x10 = true ∧ x10.seq ≤ 10 + k := ⟨r10.1, by have := r10.2; omega⟩
       refine rdd_1 4 kr (rddo_roll (nm := 59) 0 rfl trivial rfl rfl (cf rfl) (c_below _ om) rfl rfl hsrc (rs_of rfl) (fun _ => rfl) (fun x11 δ11 r11 => ?_))
       refine rdk rfl rfl rfl ?_
       obtain ⟨r11a, r11b⟩ := r11
       refine rdd_1 5 kr (rddo_call (nm := 60) rfl trivial (cf rfl) (c_AskedOf1 lg _ _ (p2.ask1 hao.1 ⟨by omega, by omega⟩ om)) (rs_of rfl) rfl rfl rfl (rdd_pure 6 rfl kr trivial (qw_move rfl) rfl (rdd_pure 7 rfl kr trivial (qw_ext rfl) rfl (rdd_pure 8 rfl kr trivial (qw_ext rfl) rfl (rdd_1 9 kr (rddo_brk rfl kr trivial (e_store ttOk rfl) (rdd_endq kr (eb (eb (et (rg (xm rfl rfl (xa rfl rfl rfl om rfl (xs rfl rfl (nl (eve_round (k + 1, z - 1, (askedF lg x10 x11).1, δ11) [(101, 60), (102, 1060), (103, 2060), (104, 3060), (105, 4060), (106, 5060), (107, 6060), (108, 7060), (109, 8060)] ?hp ⟨trf, trf, ⟨⟨_, rfl, rfl⟩, ⟨_, rfl, rfl⟩, ⟨_, rfl, rfl⟩, ⟨_, rfl, rfl⟩, ⟨_, rfl, rfl⟩, ⟨_, rfl, rfl⟩, ⟨_, rfl, rfl⟩, ⟨_, rfl, rfl⟩, ⟨_, rfl, rfl⟩, trivial⟩, tre, rfl⟩))))))))))))))))
       case hp => exact ⟨⟨by dsimp only; omega, by omega, p2.ask2 hao.1 ⟨by omega, by omega⟩ om om⟩, by omega⟩
      ·try have d9 := of_decide_eq_false h9
       refine ev_drawd [10] g mo (rdd_take 0 0 0 rfl kr trivial rfl rfl rfl rfl (q_load ttOk rfl) rfl rfl (rdd_pure 1 rfl kr trivial (qw_move rfl) rfl (rdd_take 0 0 2 rfl kr trivial rfl rfl rfl rfl (q_load ttOk rfl) rfl rfl (rdd_pure 4 rfl kr trivial (qw_move rfl) rfl (rdd_1 3 kr (rddo_roll (nm := 17) 0 rfl trivial rfl rfl (cf rfl) (c_w9Fresh lg p2.seenOk) rfl rfl hsrc (rs_of rfl) (fun _ => rfl) (fun x12 δ12 r12 => ?_)))))))
       refine rdk rfl rfl rfl ?_
       have hao := p2.fresh_ok r12.1 r12.2.1 r12.2.2 om
       refine rdd_1 5 kr (rddo_roll (nm := 19) 0 rfl trivial rfl rfl (cf rfl) (c_below _ om) rfl rfl hsrc (rs_of rfl) (fun _ => rfl) (fun x13 δ13 r13 => ?_))
       refine rdk rfl rfl rfl ?_
       obtain ⟨r13a, r13b⟩ := r13
       refine rdd_1 6 kr (rddo_call (nm := 20) rfl trivial (cf rfl) (c_AskedOf1 lg _ _ (p2.ask1 hao.1 ⟨by omega, by omega⟩ om)) (rs_of rfl) rfl rfl rfl (rdd_pure 7 rfl kr trivial (qw_move rfl) rfl (rdd_pure 8 rfl kr trivial (qw_ext rfl) rfl (rdd_pure 9 rfl kr trivial (qw_ext rfl) rfl (rdd_1 10 kr (rddo_brk rfl kr trivial (e_store ttOk rfl) (rdd_endq kr (eb (eb (et (rg (xm rfl rfl (xa rfl rfl rfl om rfl (xs rfl rfl (nl (eve_round (k + 1, z - 1, (askedF lg x12 x13).1, δ13) [(101, 20), (102, 1020), (103, 2020), (104, 3020), (105, 4020), (106, 5020), (107, 6020), (108, 7020), (109, 8020)] ?hp ⟨trf, trf, ⟨⟨_, rfl, rfl⟩, ⟨_, rfl, rfl⟩, ⟨_, rfl, rfl⟩, ⟨_, rfl, rfl⟩, ⟨_, rfl, rfl⟩, ⟨_, rfl, rfl⟩, ⟨_, rfl, rfl⟩, ⟨_, rfl, rfl⟩, ⟨_, rfl, rfl⟩, trivial⟩, tre, rfl⟩))))))))))))))))
       case hp => exact ⟨⟨by dsimp only; omega, by omega, p2.ask2 hao.1 ⟨by omega, by omega⟩ om om⟩, by omega⟩
 ·try have d1 := of_decide_eq_false h1
  refine ev_exit (evx_then (evx_then (evx_hit (et (sq (rg (xl ttOk rfl rfl (xst ttOk rfl rfl (nl (et (ev_ret ?_)))))))))))
  obtain rfl : k = m := by omega
  refine ret_roll lg δ ttOk rfl rfl rfl rfl ?_ ?_
  ·simp [RpLe, L2, RcLe]
  ·exact p2
theorem sameL_refl {n : LogN} : sameL n n = true := by
 simp [sameL, eqD, eqX, eqHd, eqBk, eqN]
section
variable {n : LogN} {k : Nat}
end
theorem c_w9LogI (m : Int) (hm : 0 ≤ m ∧ m ≤ 18) : Rolls Tryz.prog 135 37 [one (iC m)] (α := LogN) (fun n => Lg m.toNat n) (fun n => [many' (logR n)]) := by
 obtain ⟨k, rfl⟩ := Int.eq_ofNat_of_zero_le hm.1
 exact c_w9Log k om
theorem findM_ins {l : List Mark} {m : Mark} {q : Int} : findM (insF l m) q = if q = m.client then m else findM l q := by
 unfold findM
 rw [find_ins]
 split <;> rfl
theorem over_up {q : Int} : ∀ {es : List Entry} {l c : List Mark}, overL l es = some c → (findM l q).seq ≤ (findM c q).seq ∧ ∀ e ∈ es, e.client = q → e.seq ≤ (findM c q).seq
 | [], l, c, h => by cases h; exact ⟨Int.le_refl _, fun e he => by simp at he⟩
 | e :: es, l, c, h => by
  unfold overL at h
  split at h
  ·rename_i hf
   obtain ⟨h1, h2⟩ := over_up (q := q) h
   rw [findM_ins] at h1
   simp only [freshF, Bool.and_eq_true, decide_eq_true_eq] at hf
   by_cases hq : q = (eMark e).client
   ·rw [if_pos hq] at h1
    have h1 : e.seq ≤ (findM c q).seq := h1
    have hq2 : q = e.client := hq
    refine ⟨by rw [hq2] at h1 ⊢; omega, fun x hx hc => ?_⟩
    rcases List.mem_cons.1 hx with rfl | hx
    ·exact h1
    ·exact h2 x hx hc
   ·rw [if_neg hq] at h1
    refine ⟨h1, fun x hx hc => ?_⟩
    rcases List.mem_cons.1 hx with rfl | hx
    ·exact absurd hc.symm hq
    ·exact h2 x hx hc
  ·cases h
def Ded (k : Nat) (n : LogN) (a : Ask) (x : LogN) : Prop :=
 ∃ (ix tm : Int) (z : LogN) (es : List Entry), Lg (k + 1) x ∧ x.owe = n.owe ++ [⟨a.client, a.seq, ix, a.seq⟩] ∧ (∀ s, 0 ≤ s ∧ s < 1000 → askedF x a s = (x, [])) ∧
  syncedF x = (z, x.owe) ∧ Lg (k + 1) z ∧ (∀ s, 0 ≤ s ∧ s < 1000 → askedF z a s = (z, [⟨a.client, a.seq, ix, a.seq⟩])) ∧
  heldF z = es ++ [⟨ix, tm, a.client, a.seq, a.kind, a.a, a.b, a.c, a.d⟩] ∧ (∀ e ∈ es, ¬ (e.client = a.client ∧ e.seq = a.seq)) ∧ es.length ≤ 20 ∧ n.owe.length ≤ 20
theorem Lg.dedup {n : LogN} {k : Nat} (h : Lg k n) {a : Ask} (h1 : askerOk a.client = true) (h2 : opOk a.kind a.a a.b a.c a.d = true) (h3 : a.seq = (findM n.seen a.client).seq + 1) (hk : k < 18) {t : Int} (ht : 0 ≤ t ∧ t < 1000) :
  ∃ x : LogN, askedF n a t = (x, []) ∧ Ded k n a x := by
 obtain ⟨ha, hq, hs⟩ := h.fresh_ok h1 h2 h3 om
 have hl := h.len
 have hla := h.last
 have hto := time_small ht
 have hfi := h.fits ha hto om om
 have hok := (fits_iff.1 hfi).1
 have htk := h.takes ha hto om om
 have hw := h.withE ha hto om om hs hq
 have hfr := h.fresh ha hto om om hs
 have hdu := log_dur h.ok
 obtain ⟨hk2, hh, hb, he, het, _⟩ := h.j.parts
 have hf1 : freshLogF n a t = Go.Proofs.YtinmcdcmidlgpaaGreatDoor.withE n (entA n a t) := by unfold freshLogF; rw [htk]; rfl
 have hs1 : (Go.Proofs.YtinmcdcmidlgpaaGreatDoor.withE n (entA n a t)).seen = insF n.seen (eMark (entA n a t)) := by
  show (markedF n.seen (entA n a t)).1 = _
  rw [mk_yes h.seenOk hfr]
 have hfm : findM (insF n.seen (eMark (entA n a t))) a.client = ⟨a.client, a.seq, lastB n.book + 1⟩ := by rw [findM_ins]; exact if_pos rfl
 have hlb : lastB (Go.Proofs.YtinmcdcmidlgpaaGreatDoor.withE n (entA n a t)).book = lastB n.book + 1 := by
  show lastB (appF n.book _) = _
  unfold lastB appF
  simp only [List.length_append, List.length_singleton]
  omega
 have hin : ∀ e ∈ n.book.entries, ¬ (e.client = a.client ∧ e.seq = a.seq) := fun e hm hc => by
  have := (over_up (q := a.client) (log_seen h.ok).1).2 e hm hc.1
  omega
 have hsm := log_small h.ok
 have hz := hw.sync
 have hzs : ∀ z : LogN, syncedF (Go.Proofs.YtinmcdcmidlgpaaGreatDoor.withE n (entA n a t)) = (z, (Go.Proofs.YtinmcdcmidlgpaaGreatDoor.withE n (entA n a t)).owe) → z.seen = (Go.Proofs.YtinmcdcmidlgpaaGreatDoor.withE n (entA n a t)).seen → z.durable = lastB n.book + 1 → Lg (k + 1) z → ∀ s, 0 ≤ s ∧ s < 1000 → askedF z a s = (z, [⟨a.client, a.seq, lastB n.book + 1, a.seq⟩]) := by
  intro z e1 e2 e3 hz s hs
  have e4 : findM z.seen a.client = ⟨a.client, a.seq, lastB n.book + 1⟩ := by rw [e2, hs1, hfm]
  rw [ak_told hz.ok ha (time_small hs) (by rw [e4]) (by rw [e4, e3]; exact Int.lt_irrefl _), e4]
 have hwait : ∀ s, 0 ≤ s ∧ s < 1000 → askedF (Go.Proofs.YtinmcdcmidlgpaaGreatDoor.withE n (entA n a t)) a s = (Go.Proofs.YtinmcdcmidlgpaaGreatDoor.withE n (entA n a t), []) := by
  intro s hs
  refine ak_wait hw.ok ha (time_small hs) ?_ ?_
  ·rw [hs1, hfm]
  ·rw [hs1, hfm]
   show n.durable < lastB n.book + 1
   omega
 have hack : (Go.Proofs.YtinmcdcmidlgpaaGreatDoor.withE n (entA n a t)).owe = n.owe ++ [⟨a.client, a.seq, lastB n.book + 1, a.seq⟩] := by
  show n.owe ++ [ackF (entA n a t)] = _
  unfold ackF
  rw [if_pos hok]
  rfl
 have hlen : n.book.entries.length ≤ 20 := by omega
 cases hm : n.more
 ·have e1 := sy_less hw.ok (show (Go.Proofs.YtinmcdcmidlgpaaGreatDoor.withE n (entA n a t)).more = false from hm)
  rw [e1] at hz
  refine ⟨_, by rw [ak_fresh h.ok ha hto hs, hf1], _, (entA n a t).time, _, n.book.entries, hw, hack, hwait, e1, hz, hzs _ e1 rfl hlb hz, ?_, hin, hlen, by omega⟩
  rw [held_yes hz.ok]
  show (n.book.entries ++ [entA n a t]).take (lastB (Go.Proofs.YtinmcdcmidlgpaaGreatDoor.withE n (entA n a t)).book - n.book.base).toNat = _
  rw [List.take_of_length_le (by rw [hlb]; unfold lastB; simp; omega)]
  rfl
 ·have e1 := sy_more hw.ok (show (Go.Proofs.YtinmcdcmidlgpaaGreatDoor.withE n (entA n a t)).more = true from hm)
  obtain ⟨n1, n2, n3, n4, n5⟩ := h.j.next hm
  have hx : inB n.next.base (Go.Proofs.YtinmcdcmidlgpaaGreatDoor.withE n (entA n a t)).book.base (lastB (Go.Proofs.YtinmcdcmidlgpaaGreatDoor.withE n (entA n a t)).book) = true := inB_iff.2 ⟨by show n.book.base ≤ _; omega, by rw [hlb]; omega⟩
  have e2 := tr_yes hw.j.parts.2.2.1 hx
  have e3 : (Go.Proofs.YtinmcdcmidlgpaaGreatDoor.withE n (entA n a t)).next.base = n.next.base := rfl
  rw [e1] at hz
  refine ⟨_, by rw [ak_fresh h.ok ha hto hs, hf1], _, (entA n a t).time, _, n.book.entries.drop (n.next.base - n.book.base).toNat, hw, hack, hwait, e1, hz, hzs _ e1 rfl hlb hz, ?_, fun e he => hin e (List.mem_of_mem_drop he), by simp; omega, by omega⟩
  rw [held_yes hz.ok]
  simp only [e3, e2, hlb]
  show ((n.book.entries ++ [entA n a t]).drop (n.next.base - n.book.base).toNat).take _ = _
  have hlx : lastB n.book = n.book.base + n.book.entries.length := rfl
  rw [List.drop_append_of_le_length om, List.take_of_length_le (by simp; omega)]
  rfl
def cnt (n k : Nat) (mm : Int) : Prop := (k ≤ n ∧ mm = 0) ∨ (k = n + 1 ∧ mm = 1)
theorem ded_at {es : List Entry} {e : Entry} {c s : Int} {k : Nat} (hk : k < (es ++ [e]).length) (hno : ∀ x ∈ es, ¬ (x.client = c ∧ x.seq = s)) (h1 : (es ++ [e])[k].client = c) (h2 : (es ++ [e])[k].seq = s) : k = es.length ∧ (es ++ [e])[k] = e := by
 rcases Nat.lt_or_ge k es.length with h9 | h9
 ·rw [List.getElem_append_left h9] at h1 h2
  exact absurd ⟨h1, h2⟩ (hno _ (List.getElem_mem h9))
 ·have : k = es.length := by simp at hk; omega
  subst this
  exact ⟨rfl, by simp⟩
end Go.Proofs.YtinmcdcmidlgpaaGreatDoor
