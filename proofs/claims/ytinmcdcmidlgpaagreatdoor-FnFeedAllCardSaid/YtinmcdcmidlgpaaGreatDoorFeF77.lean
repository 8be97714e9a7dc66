/- Walks of functions of the program, printed by a program of the prover. -/
import Derived.Test.YtinmcdcmidlgpaaGreatDoorFeF66
import Derived.Test.YtinmcdcmidlgpaaGreatDoorFeF57
import Derived.Test.YtinmcdcmidlgpaaGreatDoorFeF61
import Derived.Test.YtinmcdcmidlgpaaGreatDoorFeF48
import Derived.Test.YtinmcdcmidlgpaaGreatDoorFeF46
import Derived.Test.YtinmcdcmidlgpaaGreatDoorFeF22
import Derived.Test.YtinmcdcmidlgpaaGreatDoorFeF41b
namespace Go.Proofs.YtinmcdcmidlgpaaGreatDoor
open Go.ChangeShapes Go.WideShapes Go.ChangeAt Go.RowKit
set_option linter.unusedVariables false
set_option linter.unusedSimpArgs false
set_option maxHeartbeats 1000000
set_option maxRecDepth 100000
attribute [local irreducible] EvL Ev EvE Quiet Eff Pure RDk RDb RDo
theorem c_RisenLog1 (n : LogN) : Pure Tryz.prog 33 [many (logC n)] [many' (logR ((risenF n.two).1)), one' (RC.v (.bool ((risenF n.two).2)))] := by
 refine pure_intro (N := 36) Tryz.func33 rfl rfl rfl rfl (fun H w => ?_)
 have c1 := c_Recovered' n.two
 have hr1 := rec_head (t := n.two)
 have hri1 := ri_no (t := n.two)
 have hri2 := ri_yes (t := n.two)
 have hrs := rec_small n.two
 generalize recF n.two = rr at c1 hr1 hri1 hri2 hrs
 refine sq (rg (evl_e (e_box rfl rfl rfl rfl) (evl_e (e_alloc ttOk rfl rfl rfl rfl) (xs rfl rfl (nl (et (sq (rg (xf ttOk rfl rfl (xl ttOk rfl rfl (evl_call (nm := 13) (cf rfl) c1 (rs_of rfl) rfl rfl rfl (xm rfl rfl (xo (q_ext rfl) rfl (xo (q_ext rfl) rfl (xo (q_ext rfl) rfl (xo (q_ext rfl) rfl (evl_e (e_alloc ttOk rfl rfl rfl rfl) (evl_e (e_alloc ttOk rfl rfl rfl rfl) (evl_e (e_alloc ttOk rfl rfl rfl rfl) (xst ttOk rfl rfl (xst ttOk rfl rfl (xst ttOk rfl rfl (xs rfl rfl (nl (et (sq (sq (rg (xm rfl rfl (xo (q_not rfl) rfl (nl (et (ev_cond_n rfl (fun h1 => ?_) (fun h1 => ?_))))))))))))))))))))))))))))))))))
 ·refine sq (rg (xo (q_build ttOk rfl) rfl (xst ttOk rfl rfl (xs rfl rfl (nl (et (ev_ret (evr_then (ret_pureN ttOk rfl rfl ?_)))))))))
  first
  | (rw [hri1 ‹_›]; simp [RpLe, L2, RcLe, zeroL, zeroD, zeroT, noHead]; done)
  | (rw [hri2 ‹_›]; simp [RpLe, L2, RcLe, noHead]; done)
 ·refine ev_skip (et (sq (rg (xf ttOk rfl rfl (xl ttOk rfl rfl (xf ttOk rfl rfl (xl ttOk rfl rfl (evl_call (nm := 26) (cf rfl) (c_SeenOver' rr.2.1.seen rr.2.2.1.entries) (rs_of rfl) rfl rfl rfl (xm rfl rfl (xo (q_ext rfl) rfl (xo (q_ext rfl) rfl (xs rfl rfl (xs rfl rfl (nl (et (sq (ev_drawq [7] mo (rk0 0 rfl (q_load ttOk rfl) rfl (rk0 1 rfl (q_load ttOk rfl) rfl (rk0 2 rfl (q_load ttOk rfl) rfl (rk0 3 rfl (q_move rfl) rfl (rk0 4 rfl (q_load ttOk rfl) rfl (rdk_one 5 kr (rdo_call (nm := 34) rfl trivial (cf rfl) (c_lastOf rr.2.2.1 (hr1 ‹_›).2.1) (rs_of rfl) rfl rfl rfl (rk0 6 rfl (q_build ttOk rfl) rfl (rdk_one 7 kr (rdo_brk rfl rfl trivial (e_store ttOk rfl) (rdb_q 8 rfl kr trivial (q_assign rfl) rfl (rdb_endq kr (et (ev_ret (ret_pureN ttOk rfl rfl ?_))))))))))))))))))))))))))))))))
  first
  | (rw [hri1 ‹_›]; simp [RpLe, L2, RcLe, zeroL, zeroD, zeroT, noHead]; done)
  | (rw [hri2 ‹_›]; simp [RpLe, L2, RcLe, noHead]; done)
theorem Lg.ask1 {n : LogN} {k : Nat} (h : Lg k n) {a : Ask} {now : Int} (ha : askOkF a = true) (hn : 0 ≤ now ∧ now < 1000) (hk : k < 19) : logOkF n = true → askOkF a = true → timeOk now = true → a.seq > (findM n.seen a.client).seq → takesA n (entA n a now) = true :=
 fun _ _ h2 _ => h.takes ha h2 om (by have := h.len; have := h.last; omega)
theorem time_small {now : Int} (hn : 0 ≤ now ∧ now < 1000) : timeOk now = true := inB_iff.2 ⟨by omega, by omega⟩
theorem Lg.ask2 {n : LogN} {k : Nat} (h : Lg k n) {a : Ask} {now : Int} (ha : askOkF a = true) (hn : 0 ≤ now ∧ now < 1000) (hk : k < 19) (hq : a.seq ≤ 10 + k) : Lg (k + 1) (askedF n a now).1 := h.ask ha (time_small hn) om (by have := h.len; have := h.last; omega) hq
theorem Lg.bd {n : LogN} {k : Nat} (h : Lg k n) : 0 ≤ n.head.base ∧ n.head.base ≤ 2000 := (head_nums h.j.parts.2.1).2.1
theorem c_w9Log (m : Nat) (hm : m ≤ 18) : Rolls Tryz.prog 135 37 [one (iC m)] (α := LogN) (fun n => Lg m n) (fun n => [many' (logR n)]) := by
 refine rolls_intro (N := 64) Tryz.func37 rfl rfl rfl rfl (fun H w g v0 bn δ0 hsrc => ?_)
 refine sq (rg (evl_e (e_alloc ttOk rfl rfl rfl rfl) (nl (et (sq (rg (evl_call (nm := 6) (cf rfl) c_NewLog' (rs_of rfl) rfl rfl rfl (evl_e (e_alloc ttOk rfl rfl rfl rfl) (xst ttOk rfl rfl (nl (et (sq (ev_blk (ev_loop (fun i : Nat × Int × LogN × DS bn => (⟨[(0, pbV 0 0), (1, iV i.2.1), (4, pbV 4 0), (5, pbV 5 0)], [(5, 55, [.rt 101, .rt 102, .rt 103, .rt 104, .c (iC i.2.2.1.head.num), .c (iC i.2.2.1.head.base), .c (iC i.2.2.1.head.time), .rt 105, .c (iC i.2.2.1.next.num), .c (iC i.2.2.1.next.base), .c (iC i.2.2.1.next.time), .rt 106, .c (bC i.2.2.1.more), .c (iC i.2.2.1.book.base), .c (iC i.2.2.1.book.time), .rt 107, .rt 108, .c (iC i.2.2.1.durable), .rt 109]), (4, 55, [.c .nil, .c .nil, .c .nil, .c .nil, .c (iC 0), .c (iC 0), .c (iC 0), .c .nil, .c (iC 0), .c (iC 0), .c (iC 0), .c .nil, .c (bC false), .c (iC 0), .c (iC 0), .c .nil, .c .nil, .c (iC 0), .c .nil]), (0, 135, diceA v0 i.2.2.2)], [(101, 74, 1, (i.2.2.1.two.a.kept.map fun r => [ints r])), (102, 212, 2, (i.2.2.1.two.a.wait.map fun x => [iC x.1, ints x.2])), (103, 74, 1, (i.2.2.1.two.b.kept.map fun r => [ints r])), (104, 212, 2, (i.2.2.1.two.b.wait.map fun x => [iC x.1, ints x.2])), (105, 94, 3, (i.2.2.1.head.seen.map markC)), (106, 94, 3, (i.2.2.1.next.seen.map markC)), (107, 80, 9, (i.2.2.1.book.entries.map entryC)), (108, 94, 3, (i.2.2.1.seen.map markC)), (109, 83, 4, (i.2.2.1.owe.map ackC))], []⟩ : St)) (fun i => i.2.1 = (m : Int) - i.1 ∧ i.1 ≤ m ∧ Lg i.1 i.2.2.1) (fun i => m - i.1) (0, m, newLogF, δ0) [(101, 6), (102, 1006), (103, 2006), (104, 3006), (105, 4006), (106, 5006), (107, 6006), (108, 7006), (109, 8006)] (⟨by simp, by simp, newLg⟩) ⟨trf, trf, ⟨⟨_, rfl, by rfl⟩, ⟨_, rfl, by rfl⟩, ⟨_, rfl, by rfl⟩, ⟨_, rfl, by rfl⟩, ⟨_, rfl, by rfl⟩, ⟨_, rfl, by rfl⟩, ⟨_, rfl, by rfl⟩, ⟨_, rfl, by rfl⟩, ⟨_, rfl, by rfl⟩, trivial⟩, tre, rfl⟩ ?_))))))))))))))
 intro i hp
 obtain ⟨k, z, lg, δ⟩ := i
 have hp : z = (m : Int) - k ∧ k ≤ m ∧ Lg k lg := hp
 obtain ⟨p0, p1, p2⟩ := hp
 show Ev _ _ _ _ (⟨[(0, pbV 0 0), (1, iV z), (4, pbV 4 0), (5, pbV 5 0)], [(5, 55, [.rt 101, .rt 102, .rt 103, .rt 104, .c (iC lg.head.num), .c (iC lg.head.base), .c (iC lg.head.time), .rt 105, .c (iC lg.next.num), .c (iC lg.next.base), .c (iC lg.next.time), .rt 106, .c (bC lg.more), .c (iC lg.book.base), .c (iC lg.book.time), .rt 107, .rt 108, .c (iC lg.durable), .rt 109]), (4, 55, [.c .nil, .c .nil, .c .nil, .c .nil, .c (iC 0), .c (iC 0), .c (iC 0), .c .nil, .c (iC 0), .c (iC 0), .c (iC 0), .c .nil, .c (bC false), .c (iC 0), .c (iC 0), .c .nil, .c .nil, .c (iC 0), .c .nil]), (0, 135, diceA v0 δ)], [(101, 74, 1, (lg.two.a.kept.map fun r => [ints r])), (102, 212, 2, (lg.two.a.wait.map fun x => [iC x.1, ints x.2])), (103, 74, 1, (lg.two.b.kept.map fun r => [ints r])), (104, 212, 2, (lg.two.b.wait.map fun x => [iC x.1, ints x.2])), (105, 94, 3, (lg.head.seen.map markC)), (106, 94, 3, (lg.next.seen.map markC)), (107, 80, 9, (lg.book.entries.map entryC)), (108, 94, 3, (lg.seen.map markC)), (109, 83, 4, (lg.owe.map ackC))], []⟩ : St)
 have hbd := p2.bd
 refine sq (sq (rg (xm rfl rfl (xb ttOk rfl rfl (nl (et (ev_cond rfl (fun h1 => ?_) (fun h1 => ?_))))))))
 ·try have d1 := of_decide_eq_true h1
  refine ev_skip (et (sq (ev_blk (sq (rg (xm rfl rfl (evl_roll (nm := 12) (cf rfl) (c_below _ om) rfl rfl hsrc (rs_of rfl) (fun _ => rfl) (fun x2 δ2 r2 => ?_))))))))
  refine rlk rfl rfl rfl ?_
  obtain ⟨r2a, r2b⟩ := r2
  refine nl (et (ev_blk (sq (sq (rg (xb ttOk rfl rfl (xs rfl rfl (nl (et (ev_cond rfl (fun h3 => ?_) (fun h3 => ?_)))))))))))
  ·try have d3 := of_decide_eq_true h3
   refine ev_skip (et (ev_cond_kt rfl h3 (rg (xl ttOk rfl rfl (evl_call (nm := 28) (cf rfl) (c_SyncedLog' lg) (rs_of rfl) rfl rfl rfl (xm rfl rfl (xo (q_ext rfl) rfl (xo (q_ext rfl) rfl (xst ttOk rfl rfl (nl (eb (eb (et (rg (xm rfl rfl (xa rfl rfl rfl om rfl (xs rfl rfl (nl (eve_round (k + 1, z - 1, (syncedF lg).1, δ2) [(101, 28), (102, 1028), (103, 2028), (104, 3028), (105, 4028), (106, 5028), (107, 6028), (108, 7028), (109, 8028)] ?hp ⟨trf, trf, ⟨⟨_, rfl, rfl⟩, ⟨_, rfl, rfl⟩, ⟨_, rfl, rfl⟩, ⟨_, rfl, rfl⟩, ⟨_, rfl, rfl⟩, ⟨_, rfl, rfl⟩, ⟨_, rfl, rfl⟩, ⟨_, rfl, rfl⟩, ⟨_, rfl, rfl⟩, trivial⟩, tre, rfl⟩)))))))))))))))))))
   case hp => exact ⟨⟨by dsimp only; omega, by omega, p2.sync.mono om⟩, by omega⟩
  ·try have d3 := of_decide_eq_false h3
   refine rg (xb ttOk rfl rfl (xs rfl rfl (nl (et (ev_cond rfl (fun h4 => ?_) (fun h4 => ?_))))))
   ·try have d4 := of_decide_eq_true h4
    refine rg (xl ttOk rfl rfl (evl_call (nm := 28) (cf rfl) (c_SyncedLog' lg) (rs_of rfl) rfl rfl rfl (xm rfl rfl (xo (q_ext rfl) rfl (xo (q_ext rfl) rfl (xst ttOk rfl rfl (nl (eb (eb (et (rg (xm rfl rfl (xa rfl rfl rfl om rfl (xs rfl rfl (nl (eve_round (k + 1, z - 1, (syncedF lg).1, δ2) [(101, 28), (102, 1028), (103, 2028), (104, 3028), (105, 4028), (106, 5028), (107, 6028), (108, 7028), (109, 8028)] ?hp ⟨trf, trf, ⟨⟨_, rfl, rfl⟩, ⟨_, rfl, rfl⟩, ⟨_, rfl, rfl⟩, ⟨_, rfl, rfl⟩, ⟨_, rfl, rfl⟩, ⟨_, rfl, rfl⟩, ⟨_, rfl, rfl⟩, ⟨_, rfl, rfl⟩, ⟨_, rfl, rfl⟩, trivial⟩, tre, rfl⟩))))))))))))))))
    case hp => exact ⟨⟨by dsimp only; omega, by omega, p2.sync.mono om⟩, by omega⟩
   ·try have d4 := of_decide_eq_false h4
    refine sq (rg (xb ttOk rfl rfl (xs rfl rfl (nl (et (ev_cond rfl (fun h5 => ?_) (fun h5 => ?_)))))))
    ·try have d5 := of_decide_eq_true h5
     refine ev_drawd [9] g mo (rdd_take 0 0 0 rfl kr trivial rfl rfl rfl rfl (q_load ttOk rfl) rfl rfl (rdd_pure 1 rfl kr trivial (qw_fieldAddr ttOk rfl) rfl (rdd_pure 2 rfl kr trivial (qw_fieldAddr ttOk rfl) rfl (rdd_take 0 0 3 rfl kr trivial rfl rfl rfl rfl (q_load ttOk rfl) rfl rfl (rdd_pure 4 rfl kr trivial (qw_ar rfl rfl rfl om) rfl (rdd_pure 5 rfl kr trivial (qw_move rfl) rfl (rdd_1 6 kr (rddo_roll (nm := 39) 0 rfl trivial rfl rfl (cf rfl) (c_below _ om) rfl rfl hsrc (rs_of rfl) (fun _ => rfl) (fun x6 δ6 r6 => ?_)))))))))
     refine rdk rfl rfl rfl ?_
     obtain ⟨r6a, r6b⟩ := r6
     refine rdd_pure 7 rfl kr trivial (qw_ar rfl rfl rfl om) rfl (rdd_1 8 kr (rddo_call (nm := 41) rfl trivial (cf rfl) (c_TrimAsked' lg _) (rs_of rfl) rfl rfl rfl (rdd_1 9 kr (rddo_brk rfl kr trivial (e_store ttOk rfl) (rdd_endq kr (eb (eb (et (rg (xm rfl rfl (xa rfl rfl rfl om rfl (xs rfl rfl (nl (eve_round (k + 1, z - 1, trimAskedF lg (lg.head.base + 1 + x6), δ6) [(101, 41), (102, 1041), (103, 2041), (104, 3041), (105, 4041), (106, 5041), (107, 6041), (108, 7041), (109, 8041)] ?hp ⟨trf, trf, ⟨⟨_, rfl, rfl⟩, ⟨_, rfl, rfl⟩, ⟨_, rfl, rfl⟩, ⟨_, rfl, rfl⟩, ⟨_, rfl, rfl⟩, ⟨_, rfl, rfl⟩, ⟨_, rfl, rfl⟩, ⟨_, rfl, rfl⟩, ⟨_, rfl, rfl⟩, trivial⟩, tre, rfl⟩))))))))))))))
     case hp => exact ⟨⟨by dsimp only; omega, by omega, (p2.trim _).mono om⟩, by omega⟩
    ·try have d5 := of_decide_eq_false h5
     refine sq (rg (xb ttOk rfl rfl (xs rfl rfl (nl (et (ev_cond rfl (fun h7 => ?_) (fun h7 => ?_)))))))
     ·try have d7 := of_decide_eq_true h7
      refine ev_drawd [8] g mo (rdd_take 0 0 0 rfl kr trivial rfl rfl rfl rfl (q_load ttOk rfl) rfl rfl (rdd_pure 1 rfl kr trivial (qw_move rfl) rfl (rdd_1 2 kr (rddo_roll (nm := 47) 0 rfl trivial rfl rfl (cf rfl) (c_w9Fates 20 om) rfl rfl hsrc (rs_of rfl) (fun _ => rfl) (fun x8 δ8 r8 => ?_)))))
      refine rdk rfl rfl rfl (rdd_1 3 kr (rddo_call (nm := 48) rfl trivial (cf rfl) (c_FallenLog' lg _ om) (rs_of rfl) rfl rfl rfl (rdd_1 4 kr (rddo_call (nm := 49) rfl trivial (cf rfl) (c_RisenLog1 (fallenLogF lg _)) (rs_of rfl) rfl rfl rfl (rdd_pure 5 rfl kr trivial (qw_move rfl) rfl (rdd_pure 6 rfl kr trivial (qw_ext rfl) rfl (rdd_pure 7 rfl kr trivial (qw_ext rfl) rfl (rdd_1 8 kr (rddo_brk rfl kr trivial (e_store ttOk rfl) (rdd_endq kr (eb (eb (et (rg (xm rfl rfl (xa rfl rfl rfl om rfl (xs rfl rfl (nl (eve_round (k + 1, z - 1, (risenF (fallenLogF lg x8).two).1, δ8) [(101, 49), (102, 1049), (103, 2049), (104, 3049), (105, 4049), (106, 5049), (107, 6049), (108, 7049), (109, 8049)] ?hp ⟨trf, trf, ⟨⟨_, rfl, rfl⟩, ⟨_, rfl, rfl⟩, ⟨_, rfl, rfl⟩, ⟨_, rfl, rfl⟩, ⟨_, rfl, rfl⟩, ⟨_, rfl, rfl⟩, ⟨_, rfl, rfl⟩, ⟨_, rfl, rfl⟩, ⟨_, rfl, rfl⟩, trivial⟩, tre, rfl⟩)))))))))))))))))))
      case hp => exact ⟨⟨by dsimp only; omega, by omega, (p2.rise _).mono om⟩, by omega⟩
     ·try have d7 := of_decide_eq_false h7
      refine sq (rg (xb ttOk rfl rfl (xs rfl rfl (nl (et (ev_cond rfl (fun h9 => ?_) (fun h9 => ?_)))))))
      ·try have d9 := of_decide_eq_true h9
       refine ev_drawd [9] g mo (rdd_take 0 0 0 rfl kr trivial rfl rfl rfl rfl (q_load ttOk rfl) rfl rfl (rdd_pure 1 rfl kr trivial (qw_move rfl) rfl (rdd_pure 3 rfl kr trivial (qw_move rfl) rfl (rdd_1 2 kr (rddo_roll (nm := 57) 0 rfl trivial rfl rfl (cf rfl) c_w9Ask rfl rfl hsrc (rs_of rfl) (fun _ => rfl) (fun x10 δ10 r10 => ?_))))))
       refine rdk rfl rfl rfl ?_
       have hao : askOkF x10 = true ∧ x10.seq ≤ 10 + k := ⟨r10.1, by have := r10.2; omega⟩
       refine rdd_1 4 kr (rddo_roll (nm := 59) 0 rfl trivial rfl rfl (cf rfl) (c_below _ om) rfl rfl hsrc (rs_of rfl) (fun _ => rfl) (fun x11 δ11 r11 => ?_))
       refine rdk rfl rfl rfl ?_
       obtain ⟨r11a, r11b⟩ := r11
       refine rdd_1 5 kr (rddo_call (nm := 60) rfl trivial (cf rfl) (c_AskedOf1 lg _ _ (p2.ask1 hao.1 ⟨by omega, by omega⟩ om)) (rs_of rfl) rfl rfl rfl (rdd_pure 6 rfl kr trivial (qw_move rfl) rfl (rdd_pure 7 rfl kr trivial (qw_ext rfl) rfl (rdd_pure 8 rfl kr trivial (qw_ext rfl) rfl (rdd_1 9 kr (rddo_brk rfl kr trivial (e_store ttOk rfl) (rdd_endq kr (eb (eb (et (rg (xm rfl rfl (xa rfl rfl rfl om rfl (xs rfl rfl (nl (eve_round (k + 1, z - 1, (askedF lg x10 x11).1, δ11) [(101, 60), (102, 1060), (103, 2060), (104, 3060), (105, 4060), (106, 5060), (107, 6060), (108, 7060), (109, 8060)] ?hp ⟨trf, trf, ⟨⟨_, rfl, rfl⟩, ⟨_, rfl, rfl⟩, ⟨_, rfl, rfl⟩, ⟨_, rfl, rfl⟩, ⟨_, rfl, rfl⟩, ⟨_, rfl, rfl⟩, ⟨_, rfl, rfl⟩, ⟨_, rfl, rfl⟩, ⟨_, rfl, rfl⟩, trivial⟩, tre, rfl⟩))))))))))))))))
       case hp => exact ⟨⟨by dsimp only; omega, by omega, p2.ask2 hao.1 ⟨by omega, by omega⟩ om om⟩, by omega⟩
      ·try have d9 := of_decide_eq_false h9
       refine ev_drawd [10] g mo (rdd_take 0 0 0 rfl kr trivial rfl rfl rfl rfl (q_load ttOk rfl) rfl rfl (rdd_pure 1 rfl kr trivial (qw_move rfl) rfl (rdd_take 0 0 2 rfl kr trivial rfl rfl rfl rfl (q_load ttOk rfl) rfl rfl (rdd_pure 4 rfl kr trivial (qw_move rfl) rfl (rdd_1 3 kr (rddo_roll (nm := 17) 0 rfl trivial rfl rfl (cf rfl) (c_w9Fresh lg p2.seenOk) rfl rfl hsrc (rs_of rfl) (fun _ => rfl) (fun x12 δ12 r12 => ?_)))))))
       refine rdk rfl rfl rfl ?_
       have hao := p2.fresh_ok r12.1 r12.2.1 r12.2.2 om
       refine rdd_1 5 kr (rddo_roll (nm := 19) 0 rfl trivial rfl rfl (cf rfl) (c_below _ om) rfl rfl hsrc (rs_of rfl) (fun _ => rfl) (fun x13 δ13 r13 => ?_))
       refine rdk rfl rfl rfl ?_
       obtain ⟨r13a, r13b⟩ := r13
       refine rdd_1 6 kr (rddo_call (nm := 20) rfl trivial (cf rfl) (c_AskedOf1 lg _ _ (p2.ask1 hao.1 ⟨by omega, by omega⟩ om)) (rs_of rfl) rfl rfl rfl (rdd_pure 7 rfl kr trivial (qw_move rfl) rfl (rdd_pure 8 rfl kr trivial (qw_ext rfl) rfl (rdd_pure 9 rfl kr trivial (qw_ext rfl) rfl (rdd_1 10 kr (rddo_brk rfl kr trivial (e_store ttOk rfl) (rdd_endq kr (eb (eb (et (rg (xm rfl rfl (xa rfl rfl rfl om rfl (xs rfl rfl (nl (eve_round (k + 1, z - 1, (askedF lg x12 x13).1, δ13) [(101, 20), (102, 1020), (103, 2020), (104, 3020), (105, 4020), (106, 5020), (107, 6020), (108, 7020), (109, 8020)] ?hp ⟨trf, trf, ⟨⟨_, rfl, rfl⟩, ⟨_, rfl, rfl⟩, ⟨_, rfl, rfl⟩, ⟨_, rfl, rfl⟩, ⟨_, rfl, rfl⟩, ⟨_, rfl, rfl⟩, ⟨_, rfl, rfl⟩, ⟨_, rfl, rfl⟩, ⟨_, rfl, rfl⟩, trivial⟩, tre, rfl⟩))))))))))))))))
       case hp => exact ⟨⟨by dsimp only; omega, by omega, p2.ask2 hao.1 ⟨by omega, by omega⟩ om om⟩, by omega⟩
 ·try have d1 := of_decide_eq_false h1
  refine ev_exit (evx_then (evx_then (evx_hit (et (sq (rg (xl ttOk rfl rfl (xst ttOk rfl rfl (nl (et (ev_ret ?_)))))))))))
  obtain rfl : k = m := by omega
  refine ret_roll lg δ ttOk rfl rfl rfl rfl ?_ ?_
  ·simp [RpLe, L2, RcLe]
  ·exact p2
section
variable {n : LogN} {k : Nat}
end
theorem c_w9LogI (m : Int) (hm : 0 ≤ m ∧ m ≤ 18) : Rolls Tryz.prog 135 37 [one (iC m)] (α := LogN) (fun n => Lg m.toNat n) (fun n => [many' (logR n)]) := by
 obtain ⟨k, rfl⟩ := Int.eq_ofNat_of_zero_le hm.1
 exact c_w9Log k om
theorem Lg.heldLen {n : LogN} {k : Nat} (h : Lg k n) : ((heldF n).length : Int) = n.durable - n.head.base ∧ (heldF n).length ≤ 20 := by
 have hdu := log_dur h.ok
 have hb := (log_bases h.ok).1
 have hs := log_small h.ok
 rw [held_yes h.ok, List.length_take]
 unfold lastB at hdu
 omega
theorem Lg.heldIx {n : LogN} {k : Nat} (h : Lg k n) {j : Nat} (hj : j < (heldF n).length) : (heldF n)[j].index = n.head.base + 1 + j := by
 have hb := (log_bases h.ok).1
 have e := held_yes h.ok
 have hj2 : j < n.book.entries.length := by
  have := hj
  rw [e, List.length_take] at this
  omega
 have := (h.j.ix hj2).1
 simp only [e, List.getElem_take]
 omega
theorem Lg.feed {n : LogN} {k : Nat} (h : Lg k n) (hk : k ≤ 1900) {c : Nat} (hc : c ≤ (heldF n).length) : feedF n (n.head.base + 1 + c) = (n.head.base, n.durable, ((heldF n).drop c).take 3) := by
 obtain ⟨hl, _⟩ := h.heldLen
 have hdu := log_dur h.ok
 have hb := (log_bases h.ok).1
 have hla := h.last
 have hb0 := h.base
 have hin : inB (n.head.base + 1 + c) 1 2001 = true := inB_iff.2 ⟨by omega, by omega⟩
 rw [fd_yes h.ok hin]
 have e : partF n.book (n.head.base + 1 + c) n.durable = (heldF n).drop c := by
  unfold partF
  have hla2 : lastB n.book = n.book.base + n.book.entries.length := rfl
  have h0 : (n.book.entries.take c).filter (fun e => inB e.index (n.head.base + 1 + c) n.durable) = [] := by
   refine List.filter_eq_nil_iff.2 fun e he => ?_
   obtain ⟨j, hj, rfl⟩ := List.mem_iff_getElem.1 he
   rw [List.length_take] at hj
   have := (h.j.ix (show j < n.book.entries.length by omega)).1
   rw [List.getElem_take]
   intro hx
   have := inB_iff.1 hx
   omega
  conv => lhs; rw [← List.take_append_drop c n.book.entries]
  rw [List.filter_append, h0, List.nil_append, filt_run (n.book.entries.drop c) (n.head.base + 1 + c) (n.head.base + 1 + c) n.durable (Int.le_refl _) (fun j hj => by
   rw [List.length_drop] at hj
   rw [List.getElem_drop, (h.j.ix (show c + j < n.book.entries.length by omega)).1]
   omega), held_yes h.ok, List.drop_take]
  congr 1
  omega
 rw [e]
theorem heldOk {n : LogN} (h : logOkF n = true) : entriesOk (heldF n) = true := by
 rw [held_yes h]
 exact ents_take (book_bd (log_all h).2.2.1).2.2.2.2 _
def Fc (len k c : Nat) : Prop := c ≤ len ∧ (3 * k ≤ c ∨ c = len)
theorem Fc.next {len k c g : Nat} (h : Fc len k c) (hg : g = min 3 (len - c)) : Fc len (k + 1) (c + g) := by
 obtain ⟨h1, h2⟩ := h
 exact ⟨by omega, by omega⟩
theorem take_more {α : Type} (l : List α) (c m : Nat) : l.take c ++ (l.drop c).take m = l.take (c + ((l.drop c).take m).length) := by
 rw [List.length_take, List.length_drop]
 rcases Nat.lt_or_ge c l.length with h | h
 ·rw [show c + min m (l.length - c) = c + min m (l.drop c).length by rw [List.length_drop], List.take_add, List.take_eq_take_min (i := m)]
 ·rw [List.drop_eq_nil_of_le h, List.take_of_length_le (by omega : l.length ≤ c + min m (l.length - c)), List.take_of_length_le h]
  simp
theorem c_w9Same (l m : List Entry) : Pure Tryz.prog 38 [one (entries l), one (entries m)] (bR (eqN Entry.nums l m)) := by
 refine pure_intro (N := 26) Tryz.func38 rfl rfl rfl rfl (fun H w => ?_)
 refine ev_lenm (t := 0) rfl (fun hL => ?_)
 refine ev_lenm (t := 1) rfl (fun hM => ?_)
 refine sq (rg (xs rfl rfl (nl (et (sq (sq (rg (xm rfl rfl (xo (q_len_map ttOk rfl rfl) rfl (xm rfl rfl (xo (q_len_map ttOk rfl rfl) rfl (xb ttOk rfl rfl (nl (et (ev_cond rfl (fun h1 => ?_) (fun h1 => ?_))))))))))))))))
 ·have d1 := of_decide_eq_true h1
  refine sq (rg (xs rfl rfl (nl (et (ev_ret (evr_then (ret_pure' ttOk rfl rfl (congrArg bR (?_ : _ = _)))))))))
  rw [eqN_len d1]
 ·have d1 := of_decide_eq_false h1
  have hlen : l.length = m.length := by omega
  refine ev_skip (et (sq (sq (rg (xs rfl rfl (nl (et (ev_blk (ev_loop (fun k : Nat => (⟨[(5, iV k), (0, cV (entries l)), (1, cV (entries m))], [], [], []⟩ : St)) (fun k => k ≤ l.length ∧ (l.take k).map Entry.nums = (m.take k).map Entry.nums) (fun k => l.length - k) 0 [] (⟨by simp, by simp⟩) lei ?_)))))))))
  intro k hp
  obtain ⟨p0, p1⟩ := hp
  show Ev _ _ _ _ (⟨[(5, iV k), (0, cV (entries l)), (1, cV (entries m))], [], [], []⟩ : St)
  refine sq (sq (rg (xm rfl rfl (xm rfl rfl (xo (q_len_map ttOk rfl rfl) rfl (xb ttOk rfl rfl (nl (et (ev_cond rfl (fun h2 => ?_) (fun h2 => ?_))))))))))
  ·have d2 := of_decide_eq_true h2
   refine ev_skip (et (sq (ev_blk (sq (ev_drawq [] mo (rk0 0 rfl (q_move rfl) rfl (rk0 1 rfl (q_move rfl) rfl (rk0 2 rfl (q_ix_map ttOk rfl rfl rfl rfl om) rfl (rk0 3 rfl (q_load ttOk rfl) rfl (rk0 4 rfl (q_move rfl) rfl (rk0 5 rfl (q_move rfl) rfl (rk0 6 rfl (q_ix_map ttOk rfl rfl rfl rfl om) rfl (rk0 7 rfl (q_load ttOk rfl) rfl ?_)))))))))))))
   first | refine rk0 8 rfl (q_eqT (n := 9) kr rfl rfl rfl rfl rfl rfl rfl) rfl ?_ | refine rk0 8 rfl (q_bin ttOk rfl) rfl ?_
   refine rdk_endq kr (et (ev_cond rfl (fun h3 => ?_) (fun h3 => ?_)))
   ·have d3 := of_decide_eq_true h3
    refine sq (rg (xs rfl rfl (nl (et (ev_ret (evr_blk (evr_then (evr_then (evr_blk (evr_then (ret_pure' ttOk rfl rfl (congrArg bR (?_ : _ = _)))))))))))))
    rw [eqN_at (k := k) om om d3]
   ·have d3 := of_decide_eq_false h3
    refine ev_skip (eb (et (rg (xm rfl rfl (xa rfl rfl rfl om rfl (xs rfl rfl (nl (eve_round (k + 1) [] ?hp lei))))))))
    case hp => exact ⟨⟨by omega, takeN om om p1 (Decidable.not_not.1 d3)⟩, by omega⟩
  ·have d2 := of_decide_eq_false h2
   refine ev_exit (evx_then (evx_then (evx_hit (et (sq (rg (xs rfl rfl (nl (et (ev_ret (ret_pure' ttOk rfl rfl (congrArg bR (?_ : _ = _)))))))))))))
   exact (takeN_all om hlen p1).symm
theorem c_w9Both (x y : List Entry) (hx : x.length ≤ 1048576) (hy : y.length ≤ 1048576) : Pure Tryz.prog 45 [one (entries x), one (entries y)] [one' (entriesR (x ++ y))] := by
 refine pure_intro (N := 10) Tryz.func45 rfl rfl rfl rfl (fun H w => ?_)
 refine sq (rg (xs rfl rfl (nl (et (sq (rg (evl_e (e_lit ttOk rfl rfl rfl) (xm rfl rfl (evl_e (e_app_c ttOk rfl rfl rfl rfl rfl (flat_entries _) (by simp; omega) rfl rfl) (xm rfl rfl (evl_e (e_app_c ttOk rfl rfl rfl rfl rfl (flat_entries _) (by simp; omega) rfl rfl) (xs rfl rfl (nl (et (ev_ret (ret_pureN ttOk rfl rfl ?_))))))))))))))))
 simp [RpLe, L2, RcLe]; done
theorem c_FeedFrom' (n : LogN) (x : Int) : Pure Tryz.prog 43 [many (logC n), one (iC x)] [many' [.v (.int .i64 (feedF n x).1), .v (.int .i64 (feedF n x).2.1), entriesR (feedF n x).2.2]] := by
 refine pure_intro (N := 33) Tryz.func43 rfl rfl rfl rfl (fun H w => ?_)
 refine sq (rg (evl_e (e_box rfl rfl rfl rfl) (evl_e (e_alloc ttOk rfl rfl rfl rfl) (nl (et (sq (sq (rg (xl ttOk rfl rfl (evl_call (nm := 8) (cf rfl) (c_LogOk2 n) (rs_of rfl) rfl rfl rfl (xo (q_not rfl) rfl (xm rfl rfl (evl_partn rfl rfl (fun h1 => ?_) (fun h1 => ?_))))))))))))))
 ·try have d1 := of_decide_eq_false h1
  refine gn (nt h1) rfl rfl rfl (gn (nt h1) rfl rfl rfl (gn (nt h1) rfl rfl rfl (xo (q_pick_t rfl (nt h1) rfl) rfl (nl (et (ev_cond_kt rfl rfl (sq (rg (xo (q_build ttOk rfl) rfl (xst ttOk rfl rfl (nl (et (ev_ret (evr_then (ret_pureN ttOk rfl rfl ?_)))))))))))))))
  first
  | (rw [fd_no1 ‹_›]; simp [RpLe, L2, RcLe]; done)
  | (rw [fd_no2 ‹_›]; simp [RpLe, L2, RcLe]; done)
  | (rw [fd_yes ‹_› ‹_›, feed_part ‹_›]; simp [RpLe, L2, RcLe]; done)
 ·try have d1 := of_decide_eq_true h1
  obtain ⟨hb, hd⟩ := log_facts h1
  have hbd := book_bd hb
  have hdd := inB_iff.1 hd
  refine gm (nf h1) rfl rfl rfl rfl (evl_callg rfl rfl (nf h1) (nm := 12) (cf rfl) (c_between _ _ _) (rs_of rfl) rfl rfl rfl (go (nf h1) rfl rfl (q_not rfl) rfl (xo (q_pick_f rfl (nf h1) rfl) rfl (nl (et (ev_cond_n rfl (fun h2 => ?_) (fun h2 => ?_)))))))
  ·try have d2 := of_decide_eq_false h2
   refine sq (rg (xo (q_build ttOk rfl) rfl (xst ttOk rfl rfl (nl (et (ev_ret (evr_then (ret_pureN ttOk rfl rfl ?_))))))))
   first
   | (rw [fd_no1 ‹_›]; simp [RpLe, L2, RcLe]; done)
   | (rw [fd_no2 ‹_›]; simp [RpLe, L2, RcLe]; done)
   | (rw [fd_yes ‹_› ‹_›, feed_part ‹_›]; simp [RpLe, L2, RcLe]; done)
  ·try have d2 := of_decide_eq_true h2
   refine ev_skip (et (sq (rg (xf ttOk rfl rfl (xl ttOk rfl rfl (xf ttOk rfl rfl (xl ttOk rfl rfl (evl_call (nm := 21) (cf rfl) (c_BackTo n.book n.durable) (rs_of rfl) rfl rfl rfl (xm rfl rfl (xo (q_ext rfl) rfl (xo (q_ext rfl) rfl (evl_e (e_alloc ttOk rfl rfl rfl rfl) (xst ttOk rfl rfl (xs rfl rfl (nl (et (sq (ev_drawq [9] mo (rk0 0 rfl (q_fieldAddr ttOk rfl) rfl (rk0 1 rfl (q_fieldAddr ttOk rfl) rfl (rk0 2 rfl (q_load ttOk rfl) rfl (rk0 3 rfl (q_fieldAddr ttOk rfl) rfl (rk0 4 rfl (q_load ttOk rfl) rfl (rk0 5 rfl (q_load ttOk rfl) rfl (rk0 6 rfl (q_move rfl) rfl (rdk_one 7 kr (rdo_call (nm := 31) rfl trivial (cf rfl) (c_PartOf (backF n.book n.durable).1 x 3 (back_len (book_len hb))) (rs_of rfl) rfl rfl rfl (rk0 8 rfl (q_build ttOk rfl) rfl (rdk_one 9 kr (rdo_brk rfl rfl trivial (e_store ttOk rfl) (rdb_endq kr (et (ev_ret (ret_pureN ttOk rfl rfl ?_))))))))))))))))))))))))))))))))))
   first
   | (rw [fd_no1 ‹_›]; simp [RpLe, L2, RcLe]; done)
   | (rw [fd_no2 ‹_›]; simp [RpLe, L2, RcLe]; done)
   | (rw [fd_yes ‹_› ‹_›, feed_part ‹_›]; simp [RpLe, L2, RcLe]; done)
theorem c_FeedOk1 (x y : Int) (l : List Entry) (h1 : inB x 0 y = true) (h2 : y ≤ 2000) (h3 : l.length ≤ 3) (h4 : entriesOk l = true) (h5 : ∀ e ∈ l, x < e.index ∧ e.index ≤ y) : Pure Tryz.prog 44 [many [iC x, iC y, entries l]] (bR true) := by
 refine pure_intro (N := 48) Tryz.func44 rfl rfl rfl rfl (fun H w => ?_)
 refine sq (rg (evl_e (e_box rfl rfl rfl rfl) (xs rfl rfl (nl (et (sq (sq (rg (xf ttOk rfl rfl (xl ttOk rfl rfl (xf ttOk rfl rfl (xl ttOk rfl rfl (evl_call (nm := 9) (cf rfl) (c_between _ _ _) (rs_of rfl) rfl rfl rfl (xo (q_not rfl) rfl (xm rfl rfl (go (nf h1) rfl rfl (q_fieldAddr ttOk rfl) rfl (go (nf h1) rfl rfl (q_load ttOk rfl) rfl (go (nf h1) rfl rfl (q_bin ttOk rfl) rfl (xo (q_pick_f rfl (nf h1) rfl) rfl (xm rfl rfl (go (decide_eq_false om) rfl rfl (q_fieldAddr ttOk rfl) rfl (go (decide_eq_false om) rfl rfl (q_load ttOk rfl) rfl (go (decide_eq_false om) rfl rfl (q_len_map ttOk rfl rfl) rfl (go (decide_eq_false om) rfl rfl (q_bin ttOk rfl) rfl (xo (q_pick_f rfl (decide_eq_false om) rfl) rfl (xm rfl rfl (go (decide_eq_false om) rfl rfl (q_fieldAddr ttOk rfl) rfl (go (decide_eq_false om) rfl rfl (q_load ttOk rfl) rfl (evl_callg rfl rfl (decide_eq_false om) (nm := 25) (cf rfl) (c_EntriesOk' _) (rs_of rfl) rfl rfl rfl (go (decide_eq_false om) rfl rfl (q_not rfl) rfl (xo (q_pick_f rfl (decide_eq_false om) rfl) rfl (nl (et (ev_cond_kf rfl (nf h4) (ev_skip (et (sq (sq (rg (xf ttOk rfl rfl (xl ttOk rfl rfl (xo (q_len_map ttOk rfl rfl) rfl (xm rfl rfl (nl (et (ev_blk (ev_loop (fun k : Nat => (⟨[(31, iV k), (30, iV l.length), (29, cV (entries l)), (1, pbV 1 0)], [(1, 99, [.c (iC x), .c (iC y), .c (entries l)])], [], []⟩ : St)) (fun k => k ≤ l.length) (fun k => l.length - k) 0 [] (by simp) lei ?_)))))))))))))))))))))))))))))))))))))))))))))))
 intro k hp
 have p0 := hp
 show Ev _ _ _ _ (⟨[(31, iV k), (30, iV l.length), (29, cV (entries l)), (1, pbV 1 0)], [(1, 99, [.c (iC x), .c (iC y), .c (entries l)])], [], []⟩ : St)
 refine sq (rg (xb ttOk rfl rfl (nl (et (sq (ev_cond rfl (fun h1 => ?_) (fun h1 => ?_)))))))
 ·try have d1 := of_decide_eq_true h1
  have h6 := h5 l[k] (List.getElem_mem om)
  refine ev_skip (et (sq (ev_blk (sq (rg (xo (q_ix_map ttOk rfl rfl rfl rfl om) rfl (xl ttOk rfl rfl (evl_e (e_alloc ttOk rfl rfl rfl rfl) (xst ttOk rfl rfl (nl (et (sq (rg (xf ttOk rfl rfl (xl ttOk rfl rfl (xf ttOk rfl rfl (xl ttOk rfl rfl (xb ttOk rfl rfl (xm rfl rfl (go (decide_eq_false om) rfl rfl (q_fieldAddr ttOk rfl) rfl (go (decide_eq_false om) rfl rfl (q_load ttOk rfl) rfl (go (decide_eq_false om) rfl rfl (q_fieldAddr ttOk rfl) rfl (go (decide_eq_false om) rfl rfl (q_load ttOk rfl) rfl (go (decide_eq_false om) rfl rfl (q_bin ttOk rfl) rfl (xo (q_pick_f rfl (decide_eq_false om) rfl) rfl (nl (et (ev_cond_kf rfl (decide_eq_false om) (ev_skip (eb (et (rg (xa rfl rfl rfl om rfl (xm rfl rfl (nl (eve_round (k + 1) [] ?hp lei))))))))))))))))))))))))))))))))))))
  case hp => exact ⟨by omega, by omega⟩
 ·try have d1 := of_decide_eq_false h1
  refine ev_exit (evx_then (evx_then (evx_hit (et (sq (rg (xs rfl rfl (nl (et (ev_ret (ret_pure' ttOk rfl rfl ?_)))))))))))
  rfl
theorem L_FeedAll (l : List Int) (hl : ∀ x ∈ l, 0 ≤ x ∧ x ≤ 255) : Pure Tryz.prog 10 [one (bytes l)] (bR true) := by
 refine pure_intro (N := 85) Tryz.func10 rfl rfl rfl rfl (fun H w => ?_)
 refine sq (rg (xs rfl rfl (nl (et (sq (sq (rg (xm rfl rfl (evl_call (nm := 12) (cf rfl) (c_big _) (rs_of rfl) rfl rfl rfl (nl (et (ev_cond rfl (fun h1 => ?_) (fun h1 => ?_)))))))))))))
 ·try have d1 := of_decide_eq_true h1
  refine sq (rg (xs rfl rfl (nl (et (ev_ret (evr_then (ret_pure' ttOk rfl rfl ?_)))))))
  rfl
 ·try have d1 := of_decide_eq_false h1
  have hn0 : ¬ (l.length : Int) > 4096 := of_decide_eq_false h1
  refine ev_skip (et (sq (rg (xm rfl rfl (evl_mkroll (cf rfl) (c_roll 928) rfl rfl hl om rfl rfl (fun g v0 δ0 hg hsrc => ?_))))))
  refine xs rfl rfl (nl (et (sq (rg (xm rfl rfl (xm rfl rfl (evl_roll (nm := 17) (cf rfl) (c_below _ om) rfl rfl hsrc (rs_of rfl) (fun _ => rfl) (fun x2 δ2 r2 => ?_))))))))
  refine rlk rfl rfl rfl ?_
  obtain ⟨r2a, r2b⟩ := r2
  refine xa rfl rfl rfl om rfl (evl_roll (nm := 19) (cf rfl) (c_w9LogI _ om) rfl rfl hsrc (rs_of rfl) (fun _ => rfl) (fun lg δ3 r3 => ?_))
  refine rlk rfl rfl rfl ?_
  have hlg := r3
  obtain ⟨hhl, hh20⟩ := hlg.heldLen
  have hdu := log_dur hlg.ok
  have hbs := (log_bases hlg.ok).1
  have hbd := hlg.bd
  have hlst := hlg.last
  refine evl_e (e_alloc ttOk rfl rfl rfl rfl) (xst ttOk rfl rfl (nl (et (sq (rg (xl ttOk rfl rfl (evl_call (nm := 21) (cf rfl) (c_HeldIn' lg) (rs_of rfl) rfl rfl rfl (xs rfl rfl (nl (et (sq (rg (evl_e (e_lit ttOk rfl rfl rfl) (xs rfl rfl (nl (et (sq (rg (xf ttOk rfl rfl (xf ttOk rfl rfl (xl ttOk rfl rfl (xa rfl rfl rfl om rfl (xs rfl rfl (nl (et (sq (sq (rg (xs rfl rfl (nl (et (ev_blk (ev_loop (fun i : Nat × Nat × Int => (⟨[(5, .p false [.rt 203]), (6, .p false [.rt 202]), (7, iV i.2.2), (8, iV i.1), (4, pbV 4 0)], [(4, 55, [.rt 401, .rt 402, .rt 403, .rt 404, .c (iC lg.head.num), .c (iC lg.head.base), .c (iC lg.head.time), .rt 405, .c (iC lg.next.num), .c (iC lg.next.base), .c (iC lg.next.time), .rt 406, .c (bC lg.more), .c (iC lg.book.base), .c (iC lg.book.time), .rt 407, .rt 408, .c (iC lg.durable), .rt 409])], [(203, 80, 9, ((heldF lg).map entryC)), (202, 80, 9, (((heldF lg).take i.2.1).map entryC)), (401, 74, 1, (lg.two.a.kept.map fun r => [ints r])), (402, 212, 2, (lg.two.a.wait.map fun x => [iC x.1, ints x.2])), (403, 74, 1, (lg.two.b.kept.map fun r => [ints r])), (404, 212, 2, (lg.two.b.wait.map fun x => [iC x.1, ints x.2])), (405, 94, 3, (lg.head.seen.map markC)), (406, 94, 3, (lg.next.seen.map markC)), (407, 80, 9, (lg.book.entries.map entryC)), (408, 94, 3, (lg.seen.map markC)), (409, 83, 4, (lg.owe.map ackC))], []⟩ : St)) (fun i => i.1 ≤ (heldF lg).length + 1 ∧ Fc (heldF lg).length i.1 i.2.1 ∧ i.2.2 = lg.head.base + 1 + i.2.1) (fun i => (heldF lg).length + 1 - i.1) (0, 0, lg.head.base + 1) [(203, 21), (202, 22), (401, 19), (402, 1019), (403, 2019), (404, 3019), (405, 4019), (406, 5019), (407, 6019), (408, 7019), (409, 8019)] (⟨by omega, ⟨Nat.zero_le _, .inl (Nat.le_refl _)⟩, by simp⟩) ⟨trf, trf, ⟨⟨_, rfl, by rfl⟩, ⟨_, rfl, by rfl⟩, ⟨_, rfl, by rfl⟩, ⟨_, rfl, by rfl⟩, ⟨_, rfl, by rfl⟩, ⟨_, rfl, by rfl⟩, ⟨_, rfl, by rfl⟩, ⟨_, rfl, by rfl⟩, ⟨_, rfl, by rfl⟩, ⟨_, rfl, by rfl⟩, ⟨_, rfl, by rfl⟩, trivial⟩, tre, rfl⟩ ?_)))))))))))))))))))))))))))))))))
  intro i hp
  obtain ⟨k, c, fr⟩ := i
  have hp : k ≤ (heldF lg).length + 1 ∧ Fc (heldF lg).length k c ∧ fr = lg.head.base + 1 + c := hp
  obtain ⟨p0, p1, p2⟩ := hp
  show Ev _ _ _ _ (⟨[(5, .p false [.rt 203]), (6, .p false [.rt 202]), (7, iV fr), (8, iV k), (4, pbV 4 0)], [(4, 55, [.rt 401, .rt 402, .rt 403, .rt 404, .c (iC lg.head.num), .c (iC lg.head.base), .c (iC lg.head.time), .rt 405, .c (iC lg.next.num), .c (iC lg.next.base), .c (iC lg.next.time), .rt 406, .c (bC lg.more), .c (iC lg.book.base), .c (iC lg.book.time), .rt 407, .rt 408, .c (iC lg.durable), .rt 409])], [(203, 80, 9, ((heldF lg).map entryC)), (202, 80, 9, (((heldF lg).take c).map entryC)), (401, 74, 1, (lg.two.a.kept.map fun r => [ints r])), (402, 212, 2, (lg.two.a.wait.map fun x => [iC x.1, ints x.2])), (403, 74, 1, (lg.two.b.kept.map fun r => [ints r])), (404, 212, 2, (lg.two.b.wait.map fun x => [iC x.1, ints x.2])), (405, 94, 3, (lg.head.seen.map markC)), (406, 94, 3, (lg.next.seen.map markC)), (407, 80, 9, (lg.book.entries.map entryC)), (408, 94, 3, (lg.seen.map markC)), (409, 83, 4, (lg.owe.map ackC))], []⟩ : St)
  have hFd := hlg.feed om (c := c) p1.1
  rw [← p2] at hFd
  have hpc := p1.1
  refine sq (sq (rg (xm rfl rfl (xm rfl rfl ?_))))
  first | refine xo (q_len_rtm ttOk rfl rfl rfl) rfl ?_ | refine xo (q_len_map ttOk rfl rfl) rfl ?_
  refine xb ttOk rfl rfl (nl (et (ev_cond rfl (fun h4 => ?_) (fun h4 => ?_))))
  ·try have d4 := of_decide_eq_true h4
   refine ev_skip (et (sq (ev_blk (sq ?_))))
   obtain ⟨G, hG⟩ : ∃ G, G = ((heldF lg).drop c).take 3 := ⟨_, rfl⟩
   have cFd := c_FeedFrom' lg fr
   rw [hFd, ← hG] at cFd
   dsimp only at cFd
   have hgl : G.length = min 3 ((heldF lg).length - c) := by rw [hG]; simp
   have hgt : (heldF lg).take c ++ G = (heldF lg).take (c + G.length) := by rw [hG]; exact take_more _ _ _
   have hgi : ∀ j (hj : j < G.length), G[j].index = fr + j := fun j hj => by
    have hj2 : c + j < (heldF lg).length := by omega
    have := hlg.heldIx hj2
    subst hG
    simp only [List.getElem_take, List.getElem_drop]
    omega
   have hok1 := c_FeedOk1 lg.head.base lg.durable G (inB_iff.2 ⟨by omega, by omega⟩) om om (by rw [hG]; exact ents_take (ents_drop (heldOk hlg.ok) _) _) (fun e he => by
    obtain ⟨j, hj, rfl⟩ := List.mem_iff_getElem.1 he
    have := hgi j hj
    omega)
   refine rg (xl ttOk rfl rfl (xm rfl rfl (evl_call (nm := 35) (cf rfl) cFd (rs_of rfl) rfl rfl rfl (evl_e (e_alloc ttOk rfl rfl rfl rfl) (xst ttOk rfl rfl (nl (et (sq (sq (rg (xl ttOk rfl rfl (evl_call (nm := 37) (cf rfl) hok1 (rs_of rfl) rfl rfl rfl (xo (q_notL rfl) rfl (xm rfl rfl (go rfl rfl rfl (q_fieldAddr ttOk rfl) rfl (go rfl rfl rfl (q_load ttOk rfl) rfl (go rfl rfl rfl (q_fieldAddr ttOk rfl) rfl (go rfl rfl rfl (q_fieldAddr ttOk rfl) rfl (go rfl rfl rfl (q_load ttOk rfl) rfl (go rfl rfl rfl (q_bin ttOk rfl) rfl (xo (q_pick_f rfl rfl rfl) rfl (xm rfl rfl (go (decide_eq_false om) rfl rfl (q_fieldAddr ttOk rfl) rfl (go (decide_eq_false om) rfl rfl (q_load ttOk rfl) rfl (go (decide_eq_false om) rfl rfl (q_fieldAddr ttOk rfl) rfl (go (decide_eq_false om) rfl rfl (q_load ttOk rfl) rfl (go (decide_eq_false om) rfl rfl (q_bin ttOk rfl) rfl (xo (q_pick_f rfl (decide_eq_false om) rfl) rfl (nl (et (ev_cond_kf rfl (decide_eq_false om) (ev_skip (et (sq (sq (rg (xs rfl rfl (nl (et (ev_blk (ev_loop (fun i : Nat × Int => (⟨[(5, .p false [.rt 203]), (6, .p false [.rt 202]), (7, iV i.2), (8, iV k), (4, pbV 4 0), (9, pbV 9 0), (10, iV i.1)], [(4, 55, [.rt 401, .rt 402, .rt 403, .rt 404, .c (iC lg.head.num), .c (iC lg.head.base), .c (iC lg.head.time), .rt 405, .c (iC lg.next.num), .c (iC lg.next.base), .c (iC lg.next.time), .rt 406, .c (bC lg.more), .c (iC lg.book.base), .c (iC lg.book.time), .rt 407, .rt 408, .c (iC lg.durable), .rt 409]), (9, 99, [.c (iC lg.head.base), .c (iC lg.durable), .rt 301])], [(203, 80, 9, ((heldF lg).map entryC)), (202, 80, 9, (((heldF lg).take c).map entryC)), (301, 80, 9, (G.map entryC)), (401, 74, 1, (lg.two.a.kept.map fun r => [ints r])), (402, 212, 2, (lg.two.a.wait.map fun x => [iC x.1, ints x.2])), (403, 74, 1, (lg.two.b.kept.map fun r => [ints r])), (404, 212, 2, (lg.two.b.wait.map fun x => [iC x.1, ints x.2])), (405, 94, 3, (lg.head.seen.map markC)), (406, 94, 3, (lg.next.seen.map markC)), (407, 80, 9, (lg.book.entries.map entryC)), (408, 94, 3, (lg.seen.map markC)), (409, 83, 4, (lg.owe.map ackC))], []⟩ : St)) (fun i => i.1 ≤ G.length ∧ i.2 = fr + i.1) (fun i => G.length - i.1) (0, fr) [(301, 35)] (⟨by omega, by simp⟩) ⟨trf, trf, ⟨⟨_, rfl, by rfl⟩, ⟨_, rfl, by rfl⟩, ⟨_, rfl, by rfl⟩, ⟨_, rfl, by rfl⟩, ⟨_, rfl, by rfl⟩, ⟨_, rfl, by rfl⟩, ⟨_, rfl, by rfl⟩, ⟨_, rfl, by rfl⟩, ⟨_, rfl, by rfl⟩, ⟨_, rfl, by rfl⟩, ⟨_, rfl, by rfl⟩, ⟨_, rfl, by rfl⟩, trivial⟩, tre, rfl⟩ ?_)))))))))))))))))))))))))))))))))))))))))
   intro i hp
   obtain ⟨j, fj⟩ := i
   have hp : j ≤ G.length ∧ fj = fr + j := hp
   obtain ⟨q0, q1⟩ := hp
   show Ev _ _ _ _ (⟨[(5, .p false [.rt 203]), (6, .p false [.rt 202]), (7, iV fj), (8, iV k), (4, pbV 4 0), (9, pbV 9 0), (10, iV j)], [(4, 55, [.rt 401, .rt 402, .rt 403, .rt 404, .c (iC lg.head.num), .c (iC lg.head.base), .c (iC lg.head.time), .rt 405, .c (iC lg.next.num), .c (iC lg.next.base), .c (iC lg.next.time), .rt 406, .c (bC lg.more), .c (iC lg.book.base), .c (iC lg.book.time), .rt 407, .rt 408, .c (iC lg.durable), .rt 409]), (9, 99, [.c (iC lg.head.base), .c (iC lg.durable), .rt 301])], [(203, 80, 9, ((heldF lg).map entryC)), (202, 80, 9, (((heldF lg).take c).map entryC)), (301, 80, 9, (G.map entryC)), (401, 74, 1, (lg.two.a.kept.map fun r => [ints r])), (402, 212, 2, (lg.two.a.wait.map fun x => [iC x.1, ints x.2])), (403, 74, 1, (lg.two.b.kept.map fun r => [ints r])), (404, 212, 2, (lg.two.b.wait.map fun x => [iC x.1, ints x.2])), (405, 94, 3, (lg.head.seen.map markC)), (406, 94, 3, (lg.next.seen.map markC)), (407, 80, 9, (lg.book.entries.map entryC)), (408, 94, 3, (lg.seen.map markC)), (409, 83, 4, (lg.owe.map ackC))], []⟩ : St)
   refine sq (sq (rg (xm rfl rfl (xf ttOk rfl rfl (xl ttOk rfl rfl ?_)))))
   first | refine xo (q_len_rtm ttOk rfl rfl rfl) rfl ?_ | refine xo (q_len_map ttOk rfl rfl) rfl ?_
   refine xb ttOk rfl rfl (nl (et (ev_cond rfl (fun h5 => ?_) (fun h5 => ?_))))
   ·try have d5 := of_decide_eq_true h5
    have hg6 := hgi j om
    refine ev_skip (et (sq (ev_blk (sq (sq (rg (xf ttOk rfl rfl (xl ttOk rfl rfl (xm rfl rfl (xo (q_ix_rt (m := j) ttOk rfl rfl rfl rfl rfl rfl (by simp; omega)) rfl (xf ttOk rfl rfl (xo (q_load_pr ttOk rfl rfl rfl rfl (get_map om) rfl rfl) rfl (xm rfl rfl (xb ttOk rfl rfl (nl (et (ev_cond_kf rfl (decide_eq_false om) (ev_skip (et (rg (xm rfl rfl (xa rfl rfl rfl om rfl (xs rfl rfl (nl (eb (et (rg (xm rfl rfl (xa rfl rfl rfl om rfl (xs rfl rfl (nl (eve_round (j + 1, fj + 1) [] ?hp ⟨trf, trf, ⟨⟨_, rfl, by rfl⟩, ⟨_, rfl, by rfl⟩, ⟨_, rfl, by rfl⟩, ⟨_, rfl, by rfl⟩, ⟨_, rfl, by rfl⟩, ⟨_, rfl, by rfl⟩, ⟨_, rfl, by rfl⟩, ⟨_, rfl, by rfl⟩, ⟨_, rfl, by rfl⟩, ⟨_, rfl, by rfl⟩, ⟨_, rfl, by rfl⟩, ⟨_, rfl, by rfl⟩, trivial⟩, tre, rfl⟩))))))))))))))))))))))))))))))))
    case hp => exact ⟨⟨by omega, by dsimp only; omega⟩, by omega⟩
   ·try have d5 := of_decide_eq_false h5
    refine ev_exit (evx_then (evx_then (evx_hit (et (rg (xm rfl rfl (xf ttOk rfl rfl (xl ttOk rfl rfl (evl_call (nm := 74) (cf rfl) (c_w9Both ((heldF lg).take c) G (by simp; omega) om) (rs_of rfl) rfl rfl rfl (xs rfl rfl (nl (eb (et (rg (xm rfl rfl (xa rfl rfl rfl om rfl (xs rfl rfl (nl (eve_round (k + 1, c + G.length, fj) [(202, 74)] ?hp ⟨trf, trf, ⟨⟨_, rfl, rfl⟩, ⟨_, rfl, by rw [hgt]⟩, ⟨_, rfl, rfl⟩, ⟨_, rfl, rfl⟩, ⟨_, rfl, rfl⟩, ⟨_, rfl, rfl⟩, ⟨_, rfl, rfl⟩, ⟨_, rfl, rfl⟩, ⟨_, rfl, rfl⟩, ⟨_, rfl, rfl⟩, ⟨_, rfl, rfl⟩, trivial⟩, tre, rfl⟩)))))))))))))))))))
    case hp => exact ⟨⟨by omega, p1.next hgl, by dsimp only; omega⟩, by omega⟩
  ·try have d4 := of_decide_eq_false h4
   refine ev_exit (evx_then (evx_then (evx_hit (et (sq ?_)))))
   have hce : c = (heldF lg).length := by rcases p1.2 with h9 | h9 <;> omega
   have hsm : eqN Entry.nums ((heldF lg).take c) (heldF lg) = true := by rw [List.take_of_length_le om]; exact eqN_refl
   refine rg (xm rfl rfl (xm rfl rfl (evl_call (nm := 77) (cf rfl) (c_w9Same ((heldF lg).take c) (heldF lg)) (rs_of rfl) rfl rfl rfl (xm rfl rfl (gm hsm rfl rfl rfl rfl (go hsm rfl rfl (q_fieldAddr ttOk rfl) rfl (go hsm rfl rfl (q_load ttOk rfl) rfl (go hsm rfl rfl (q_ar rfl rfl rfl om) rfl (go hsm rfl rfl (q_bin ttOk rfl) rfl (xo (q_pick_t rfl hsm rfl) rfl (xs rfl rfl (nl (et (ev_ret ?_))))))))))))))
   exact ret_law hg ttOk rfl rfl (congrArg bR (decide_eq_true om))
end Go.Proofs.YtinmcdcmidlgpaaGreatDoor
