/- Walks of functions of the program, printed by a program of the prover. -/
import Derived.Test.YtinmcdcmidlgpaaGreatDoorOwF66
import Derived.Test.YtinmcdcmidlgpaaGreatDoorOwF57
import Derived.Test.YtinmcdcmidlgpaaGreatDoorOwF61
import Derived.Test.YtinmcdcmidlgpaaGreatDoorOwF47
import Derived.Test.YtinmcdcmidlgpaaGreatDoorOwF43
import Derived.Test.YtinmcdcmidlgpaaGreatDoorOwF22
namespace Go.Proofs.YtinmcdcmidlgpaaGreatDoor
open Go.ChangeShapes Go.WideShapes Go.ChangeAt Go.RowKit
set_option linter.unusedVariables false
set_option linter.unusedSimpArgs false
set_option maxHeartbeats 1000000
set_option maxRecDepth 100000
attribute [local irreducible] EvL Ev EvE Quiet Eff Pure RDk RDb RDo
theorem c_RisenLog1 (n : LogN) : Pure Tryz.prog 33 [many (logC n)] [many' (logR ((risenF n.two).1)), one' (RC.v (.bool ((risenF n.two).2)))] := by
 refine pure_intro (N := 36) Tryz.func33 rfl rfl rfl rfl (fun H w => ?_)
 have c1 := c_Recovered' n.two
 have hr1 := rec_head (t := n.two)
 have hri1 := ri_no (t := n.two)
 have hri2 := ri_yes (t := n.two)
 have hrs := rec_small n.two
 generalize recF n.two = rr at c1 hr1 hri1 hri2 hrs
 refine sq (rg (evl_e (e_box rfl rfl rfl rfl) (evl_e (e_alloc ttOk rfl rfl rfl rfl) (xs rfl rfl (nl (et (sq (rg (xf ttOk rfl rfl (xl ttOk rfl rfl (evl_call (nm := 13) (cf rfl) c1 (rs_of rfl) rfl rfl rfl (xm rfl rfl (xo (q_ext rfl) rfl (xo (q_ext rfl) rfl (xo (q_ext rfl) rfl (xo (q_ext rfl) rfl (evl_e (e_alloc ttOk rfl rfl rfl rfl) (evl_e (e_alloc ttOk rfl rfl rfl rfl) (evl_e (e_alloc ttOk rfl rfl rfl rfl) (xst ttOk rfl rfl (xst ttOk rfl rfl (xst ttOk rfl rfl (xs rfl rfl (nl (et (sq (sq (rg (xm rfl rfl (xo (q_not rfl) rfl (nl (et (ev_cond_n rfl (fun h1 => ?_) (fun h1 => ?_))))))))))))))))))))))))))))))))))
 ·refine sq (rg (xo (q_build ttOk rfl) rfl (xst ttOk rfl rfl (xs rfl rfl (nl (et (ev_ret (evr_then (ret_pureN ttOk rfl rfl ?_)))))))))
  first
  | (rw [hri1 ‹_›]; simp [RpLe, L2, RcLe, zeroL, zeroD, zeroT, noHead]; done)
  | (rw [hri2 ‹_›]; simp [RpLe, L2, RcLe, noHead]; done)
 ·refine ev_skip (et (sq (rg (xf ttOk rfl rfl (xl ttOk rfl rfl (xf ttOk rfl rfl (xl ttOk rfl rfl (evl_call (nm := 26) (cf rfl) (c_SeenOver' rr.2.1.seen rr.2.2.1.entries) (rs_of rfl) rfl rfl rfl (xm rfl rfl (xo (q_ext rfl) rfl (xo (q_ext rfl) rfl (xs rfl rfl (xs rfl rfl (nl (et (sq (ev_drawq [7] mo (rk0 0 rfl (q_load ttOk rfl) rfl (rk0 1 rfl (q_load ttOk rfl) rfl (rk0 2 rfl (q_load ttOk rfl) rfl (rk0 3 rfl (q_move rfl) rfl (rk0 4 rfl (q_load ttOk rfl) rfl (rdk_one 5 kr (rdo_call (nm := 34) rfl trivial (cf rfl) (c_lastOf rr.2.2.1 (hr1 ‹_›).2.1) (rs_of rfl) rfl rfl rfl (rk0 6 rfl (q_build ttOk rfl) rfl (rdk_one 7 kr (rdo_brk rfl rfl trivial (e_store ttOk rfl) (rdb_q 8 rfl kr trivial (q_assign rfl) rfl (rdb_endq kr (et (ev_ret (ret_pureN ttOk rfl rfl ?_))))))))))))))))))))))))))))))))
  first
  | (rw [hri1 ‹_›]; simp [RpLe, L2, RcLe, zeroL, zeroD, zeroT, noHead]; done)
  | (rw [hri2 ‹_›]; simp [RpLe, L2, RcLe, noHead]; done)
theorem Lg.ask1 {n : LogN} {k : Nat} (h : Lg k n) {a : Ask} {now : Int} (ha : askOkF a = true) (hn : 0 ≤ now ∧ now < 1000) (hk : k < 19) : logOkF n = true → askOkF a = true → timeOk now = true → a.seq > (findM n.seen a.client).seq → takesA n (entA n a now) = true :=
 fun _ _ h2 _ => h.takes ha h2 om (by have := h.len; have := h.last; omega)
theorem time_small {now : Int} (hn : 0 ≤ now ∧ now < 1000) : timeOk now = true := inB_iff.2 ⟨by omega, by omega⟩
theorem Lg.ask2 {n : LogN} {k : Nat} (h : Lg k n) {a : Ask} {now : Int} (ha : askOkF a = true) (hn : 0 ≤ now ∧ now < 1000) (hk : k < 19) (hq : a.seq ≤ 10 + k) : Lg (k + 1) (askedF n a now).1 := h.ask ha (time_small hn) om (by have := h.len; have := h.last; omega) hq
theorem Lg.bd {n : LogN} {k : Nat} (h : Lg k n) : 0 ≤ n.head.base ∧ n.head.base ≤ 2000 := (head_nums h.j.parts.2.1).2.1
theorem c_w9Log (m : Nat) (hm : m ≤ 18) : Rolls Tryz.prog 135 37 [one (iC m)] (α := LogN) (fun n => Lg m n) (fun n => [many' (logR n)]) := by
 refine rolls_intro (N := 64) Tryz.func37 rfl rfl rfl rfl (fun H w g v0 bn δ0 hsrc => ?_)
 refine sq (rg (evl_e (e_alloc ttOk rfl rfl rfl rfl) (nl (et (sq (rg (evl_call (nm := 6) (cf rfl) c_NewLog' (rs_of rfl) rfl rfl rfl (evl_e (e_alloc ttOk rfl rfl rfl rfl) (xst ttOk rfl rfl (nl (et (sq (ev_blk (ev_loop (fun i : Nat × Int × LogN × DS bn => (⟨[(0, pbV 0 0), (1, iV i.2.1), (4, pbV 4 0), (5, pbV 5 0)], [(5, 55, [.rt 101, .rt 102, .rt 103, .rt 104, .c (iC i.2.2.1.head.num), .c (iC i.2.2.1.head.base), .c (iC i.2.2.1.head.time), .rt 105, .c (iC i.2.2.1.next.num), .c (iC i.2.2.1.next.base), .c (iC i.2.2.1.next.time), .rt 106, .c (bC i.2.2.1.more), .c (iC i.2.2.1.book.base), .c (iC i.2.2.1.book.time), .rt 107, .rt 108, .c (iC i.2.2.1.durable), .rt 109]), (4, 55, [.c .nil, .c .nil, .c .nil, .c .nil, .c (iC 0), .c (iC 0), .c (iC 0), .c .nil, .c (iC 0), .c (iC 0), .c (iC 0), .c .nil, .c (bC false), .c (iC 0), .c (iC 0), .c .nil, .c .nil, .c (iC 0), .c .nil]), (0, 135, diceA v0 i.2.2.2)], [(101, 74, 1, (i.2.2.1.two.a.kept.map fun r => [ints r])), (102, 212, 2, (i.2.2.1.two.a.wait.map fun x => [iC x.1, ints x.2])), (103, 74, 1, (i.2.2.1.two.b.kept.map fun r => [ints r])), (104, 212, 2, (i.2.2.1.two.b.wait.map fun x => [iC x.1, ints x.2])), (105, 94, 3, (i.2.2.1.head.seen.map markC)), (106, 94, 3, (i.2.2.1.next.seen.map markC)), (107, 80, 9, (i.2.2.1.book.entries.map entryC)), (108, 94, 3, (i.2.2.1.seen.map markC)), (109, 83, 4, (i.2.2.1.owe.map ackC))], []⟩ : St)) (fun i => i.2.1 = (m : Int) - i.1 ∧ i.1 ≤ m ∧ Lg i.1 i.2.2.1) (fun i => m - i.1) (0, m, newLogF, δ0) [(101, 6), (102, 1006), (103, 2006), (104, 3006), (105, 4006), (106, 5006), (107, 6006), (108, 7006), (109, 8006)] (⟨by simp, by simp, newLg⟩) ⟨trf, trf, ⟨⟨_, rfl, by rfl⟩, ⟨_, rfl, by rfl⟩, ⟨_, rfl, by rfl⟩, ⟨_, rfl, by rfl⟩, ⟨_, rfl, by rfl⟩, ⟨_, rfl, by rfl⟩, ⟨_, rfl, by rfl⟩, ⟨_, rfl, by rfl⟩, ⟨_, rfl, by rfl⟩, trivial⟩, tre, rfl⟩ ?_))))))))))))))
 intro i hp
 obtain ⟨k, z, lg, δ⟩ := i
 have hp : z = (m : Int) - k ∧ k ≤ m ∧ Lg k lg := hp
 obtain ⟨p0, p1, p2⟩ := hp
 show Ev _ _ _ _ (⟨[(0, pbV 0 0), (1, iV z), (4, pbV 4 0), (5, pbV 5 0)], [(5, 55, [.rt 101, .rt 102, .rt 103, .rt 104, .c (iC lg.head.num), .c (iC lg.head.base), .c (iC lg.head.time), .rt 105, .c (iC lg.next.num), .c (iC lg.next.base), .c (iC lg.next.time), .rt 106, .c (bC lg.more), .c (iC lg.book.base), .c (iC lg.book.time), .rt 107, .rt 108, .c (iC lg.durable), .rt 109]), (4, 55, [.c .nil, .c .nil, .c .nil, .c .nil, .c (iC 0), .c (iC 0), .c (iC 0), .c .nil, .c (iC 0), .c (iC 0), .c (iC 0), .c .nil, .c (bC false), .c (iC 0), .c (iC 0), .c .nil, .c .nil, .c (iC 0), .c .nil]), (0, 135, diceA v0 δ)], [(101, 74, 1, (lg.two.a.kept.map fun r => [ints r])), (102, 212, 2, (lg.two.a.wait.map fun x => [iC x.1, ints x.2])), (103, 74, 1, (lg.two.b.kept.map fun r => [ints r])), (104, 212, 2, (lg.two.b.wait.map fun x => [iC x.1, ints x.2])), (105, 94, 3, (lg.head.seen.map markC)), (106, 94, 3, (lg.next.seen.map markC)), (107, 80, 9, (lg.book.entries.map entryC)), (108, 94, 3, (lg.seen.map markC)), (109, 83, 4, (lg.owe.map ackC))], []⟩ : St)
 have hbd := p2.bd
 refine sq (sq (rg (xm rfl rfl (xb ttOk rfl rfl (nl (et (ev_cond rfl (fun h1 => ?_) (fun h1 => ?_))))))))
 ·try have d1 := of_decide_eq_true h1
  refine ev_skip (et (sq (ev_blk (sq (rg (xm rfl rfl (evl_roll (nm := 12) (cf rfl) (c_below _ om) rfl rfl hsrc (rs_of rfl) (fun _ => rfl) (fun x2 δ2 r2 => ?_))))))))
  refine rlk rfl rfl rfl ?_
  obtain ⟨r2a, r2b⟩ := r2
  refine nl (et (ev_blk (sq (sq (rg (xb ttOk rfl rfl (xs rfl rfl (nl (et (ev_cond rfl (fun h3 => ?_) (fun h3 => ?_)))))))))))
  ·try have d3 := of_decide_eq_true h3
   refine ev_skip (et (ev_cond_kt rfl h3 (rg (xl ttOk rfl rfl (evl_call (nm := 28) (cf rfl) (c_SyncedLog' lg) (rs_of rfl) rfl rfl rfl (xm rfl rfl (xo (q_ext rfl) rfl (xo (q_ext rfl) rfl (xst ttOk rfl rfl (nl (eb (eb (et (rg (xm rfl rfl (xa rfl rfl rfl om rfl (xs rfl rfl (nl (eve_round (k + 1, z - 1, (syncedF lg).1, δ2) [(101, 28), (102, 1028), (103, 2028), (104, 3028), (105, 4028), (106, 5028), (107, 6028), (108, 7028), (109, 8028)] ?hp ⟨trf, trf, ⟨⟨_, rfl, rfl⟩, ⟨_, rfl, rfl⟩, ⟨_, rfl, rfl⟩, ⟨_, rfl, rfl⟩, ⟨_, rfl, rfl⟩, ⟨_, rfl, rfl⟩, ⟨_, rfl, rfl⟩, ⟨_, rfl, rfl⟩, ⟨_, rfl, rfl⟩, trivial⟩, tre, rfl⟩)))))))))))))))))))
   case hp => exact ⟨⟨by dsimp only; omega, by omega, p2.sync.mono om⟩, by omega⟩
  ·try have d3 := of_decide_eq_false h3
   refine rg (xb ttOk rfl rfl (xs rfl rfl (nl (et (ev_cond rfl (fun h4 => ?_) (fun h4 => ?_))))))
   ·try have d4 := of_decide_eq_true h4
    refine rg (xl ttOk rfl rfl (evl_call (nm := 28) (cf rfl) (c_SyncedLog' lg) (rs_of rfl) rfl rfl rfl (xm rfl rfl (xo (q_ext rfl) rfl (xo (q_ext rfl) rfl (xst ttOk rfl rfl (nl (eb (eb (et (rg (xm rfl rfl (xa rfl rfl rfl om rfl (xs rfl rfl (nl (eve_round (k + 1, z - 1, (syncedF lg).1, δ2) [(101, 28), (102, 1028), (103, 2028), (104, 3028), (105, 4028), (106, 5028), (107, 6028), (108, 7028), (109, 8028)] ?hp ⟨trf, trf, ⟨⟨_, rfl, rfl⟩, ⟨_, rfl, rfl⟩, ⟨_, rfl, rfl⟩, ⟨_, rfl, rfl⟩, ⟨_, rfl, rfl⟩, ⟨_, rfl, rfl⟩, ⟨_, rfl, rfl⟩, ⟨_, rfl, rfl⟩, ⟨_, rfl, rfl⟩, trivial⟩, tre, rfl⟩))))))))))))))))
    case hp => exact ⟨⟨by dsimp only; omega, by omega, p2.sync.mono om⟩, by omega⟩
   ·try have d4 := of_decide_eq_false h4
    refine sq (rg (xb ttOk rfl rfl (xs rfl rfl (nl (et (ev_cond rfl (fun h5 => ?_) (fun h5 => ?_)))))))
    ·try have d5 := of_decide_eq_true h5
     refine ev_drawd [9] g mo (rdd_take 0 0 0 rfl kr trivial rfl rfl rfl rfl (q_load ttOk rfl) rfl rfl (rdd_pure 1 rfl kr trivial (qw_fieldAddr ttOk rfl) rfl (rdd_pure 2 rfl kr trivial (qw_fieldAddr ttOk rfl) rfl (rdd_take 0 0 3 rfl kr trivial rfl rfl rfl rfl (q_load ttOk rfl) rfl rfl (rdd_pure 4 rfl kr trivial (qw_ar rfl rfl rfl om) rfl (rdd_pure 5 rfl kr trivial (qw_move rfl) rfl (rdd_1 6 kr (rddo_roll (nm := 39) 0 rfl trivial rfl rfl (cf rfl) (c_below _ om) rfl rfl hsrc (rs_of rfl) (fun _ => rfl) (fun x6 δ6 r6 => ?_)))))))))
     refine rdk rfl rfl rfl ?_
     obtain ⟨r6a, r6b⟩ := r6
     refine rdd_pure 7 rfl kr trivial (qw_ar rfl rfl rfl om) rfl (rdd_1 8 kr (rddo_call (nm := 41) rfl trivial (cf rfl) (c_TrimAsked' lg _) (rs_of rfl) rfl rfl rfl (rdd_1 9 kr (rddo_brk rfl kr trivial (e_store ttOk rfl) (rdd_endq kr (eb (eb (et (rg (xm rfl rfl (xa rfl rfl rfl om rfl (xs rfl rfl (nl (eve_round (k + 1, z - 1, trimAskedF lg (lg.head.base + 1 + x6), δ6) [(101, 41), (102, 1041), (103, 2041), (104, 3041), (105, 4041), (106, 5041), (107, 6041), (108, 7041), (109, 8041)] ?hp ⟨trf, trf, ⟨⟨_, rfl, rfl⟩, ⟨_, rfl, rfl⟩, ⟨_, rfl, rfl⟩, ⟨_, rfl, rfl⟩, ⟨_, rfl, rfl⟩, ⟨_, rfl, rfl⟩, ⟨_, rfl, rfl⟩, ⟨_, rfl, rfl⟩, ⟨_, rfl, rfl⟩, trivial⟩, tre, rfl⟩))))))))))))))
     case hp => exact ⟨⟨by dsimp only; omega, by omega, (p2.trim _).mono om⟩, by omega⟩
    ·try have d5 := of_decide_eq_false h5
     refine sq (rg (xb ttOk rfl rfl (xs rfl rfl (nl (et (ev_cond rfl (fun h7 => ?_) (fun h7 => ?_)))))))
     ·try have d7 := of_decide_eq_true h7
      refine ev_drawd [8] g mo (rdd_take 0 0 0 rfl kr trivial rfl rfl rfl rfl (q_load ttOk rfl) rfl rfl (rdd_pure 1 rfl kr trivial (qw_move rfl) rfl (rdd_1 2 kr (rddo_roll (nm := 47) 0 rfl trivial rfl rfl (cf rfl) (c_w9Fates 20 om) rfl rfl hsrc (rs_of rfl) (fun _ => rfl) (fun x8 δ8 r8 => ?_)))))
      refine rdk rfl rfl rfl (rdd_1 3 kr (rddo_call (nm := 48) rfl trivial (cf rfl) (c_FallenLog' lg _ om) (rs_of rfl) rfl rfl rfl (rdd_1 4 kr (rddo_call (nm := 49) rfl trivial (cf rfl) (c_RisenLog1 (fallenLogF lg _)) (rs_of rfl) rfl rfl rfl (rdd_pure 5 rfl kr trivial (qw_move rfl) rfl (rdd_pure 6 rfl kr trivial (qw_ext rfl) rfl (rdd_pure 7 rfl kr trivial (qw_ext rfl) rfl (rdd_1 8 kr (rddo_brk rfl kr trivial (e_store ttOk rfl) (rdd_endq kr (eb (eb (et (rg (xm rfl rfl (xa rfl rfl rfl om rfl (xs rfl rfl (nl (eve_round (k + 1, z - 1, (risenF (fallenLogF lg x8).two).1, δ8) [(101, 49), (102, 1049), (103, 2049), (104, 3049), (105, 4049), (106, 5049), (107, 6049), (108, 7049), (109, 8049)] ?hp ⟨trf, trf, ⟨⟨_, rfl, rfl⟩, ⟨_, rfl, rfl⟩, ⟨_, rfl, rfl⟩, ⟨_, rfl, rfl⟩, ⟨_, rfl, rfl⟩, ⟨_, rfl, rfl⟩, ⟨_, rfl, rfl⟩, ⟨_, rfl, rfl⟩, ⟨_, rfl, rfl⟩, trivial⟩, tre, rfl⟩)))))))))))))))))))
      case hp => exact ⟨⟨by dsimp only; omega, by omega, (p2.rise _).mono om⟩, by omega⟩
     ·try have d7 := of_decide_eq_false h7
      refine sq (rg (xb ttOk rfl rfl (xs rfl rfl (nl (et (ev_cond rfl (fun h9 => ?_) (fun h9 => ?_)))))))
      ·try have d9 := of_decide_eq_true h9
       refine ev_drawd [9] g mo (rdd_take 0 0 0 rfl kr trivial rfl rfl rfl rfl (q_load ttOk rfl) rfl rfl (rdd_pure 1 rfl kr trivial (qw_move rfl) rfl (rdd_pure 3 rfl kr trivial (qw_move rfl) rfl (rdd_1 2 kr (rddo_roll (nm := 57) 0 rfl trivial rfl rfl (cf rfl) c_w9Ask rfl rfl hsrc (rs_of rfl) (fun _ => rfl) (fun x10 δ10 r10 => ?_))))))
       refine rdk rfl rfl rfl ?_
       have hao : askOkF x10 = true ∧ x10.seq ≤ 10 + k := ⟨r10.1, by have := r10.2; omega⟩
       refine rdd_1 4 kr (rddo_roll (nm := 59) 0 rfl trivial rfl rfl (cf rfl) (c_below _ om) rfl rfl hsrc (rs_of rfl) (fun _ => rfl) (fun x11 δ11 r11 => ?_))
       refine rdk rfl rfl rfl ?_
       obtain ⟨r11a, r11b⟩ := r11
       refine rdd_1 5 kr (rddo_call (nm := 60) rfl trivial (cf rfl) (c_AskedOf1 lg _ _ (p2.ask1 hao.1 ⟨by omega, by omega⟩ om)) (rs_of rfl) rfl rfl rfl (rdd_pure 6 rfl kr trivial (qw_move rfl) rfl (rdd_pure 7 rfl kr trivial (qw_ext rfl) rfl (rdd_pure 8 rfl kr trivial (qw_ext rfl) rfl (rdd_1 9 kr (rddo_brk rfl kr trivial (e_store ttOk rfl) (rdd_endq kr (eb (eb (et (rg (xm rfl rfl (xa rfl rfl rfl om rfl (xs rfl rfl (nl (eve_round (k + 1, z - 1, (askedF lg x10 x11).1, δ11) [(101, 60), (102, 1060), (103, 2060), (104, 3060), (105, 4060), (106, 5060), (107, 6060), (108, 7060), (109, 8060)] ?hp ⟨trf, trf, ⟨⟨_, rfl, rfl⟩, ⟨_, rfl, rfl⟩, ⟨_, rfl, rfl⟩, ⟨_, rfl, rfl⟩, ⟨_, rfl, rfl⟩, ⟨_, rfl, rfl⟩, ⟨_, rfl, rfl⟩, ⟨_, rfl, rfl⟩, ⟨_, rfl, rfl⟩, trivial⟩, tre, rfl⟩))))))))))))))))
       case hp => exact ⟨⟨by dsimp only; omega, by omega, p2.ask2 hao.1 ⟨by omega, by omega⟩ om om⟩, by omega⟩
      ·try have d9 := of_decide_eq_false h9
       refine ev_drawd [10] g mo (rdd_take 0 0 0 rfl kr trivial rfl rfl rfl rfl (q_load ttOk rfl) rfl rfl (rdd_pure 1 rfl kr trivial (qw_move rfl) rfl (rdd_take 0 0 2 rfl kr trivial rfl rfl rfl rfl (q_load ttOk rfl) rfl rfl (rdd_pure 4 rfl kr trivial (qw_move rfl) rfl (rdd_1 3 kr (rddo_roll (nm := 17) 0 rfl trivial rfl rfl (cf rfl) (c_w9Fresh lg p2.seenOk) rfl rfl hsrc (rs_of rfl) (fun _ => rfl) (fun x12 δ12 r12 => ?_)))))))
       refine rdk rfl rfl rfl ?_
       have hao := p2.fresh_ok r12.1 r12.2.1 r12.2.2 om
       refine rdd_1 5 kr (rddo_roll (nm := 19) 0 rfl trivial rfl rfl (cf rfl) (c_below _ om) rfl rfl hsrc (rs_of rfl) (fun _ => rfl) (fun x13 δ13 r13 => ?_))
       refine rdk rfl rfl rfl ?_
       obtain ⟨r13a, r13b⟩ := r13
       refine rdd_1 6 kr (rddo_call (nm := 20) rfl trivial (cf rfl) (c_AskedOf1 lg _ _ (p2.ask1 hao.1 ⟨by omega, by omega⟩ om)) (rs_of rfl) rfl rfl rfl (rdd_pure 7 rfl kr trivial (qw_move rfl) rfl (rdd_pure 8 rfl kr trivial (qw_ext rfl) rfl (rdd_pure 9 rfl kr trivial (qw_ext rfl) rfl (rdd_1 10 kr (rddo_brk rfl kr trivial (e_store ttOk rfl) (rdd_endq kr (eb (eb (et (rg (xm rfl rfl (xa rfl rfl rfl om rfl (xs rfl rfl (nl (eve_round (k + 1, z - 1, (askedF lg x12 x13).1, δ13) [(101, 20), (102, 1020), (103, 2020), (104, 3020), (105, 4020), (106, 5020), (107, 6020), (108, 7020), (109, 8020)] ?hp ⟨trf, trf, ⟨⟨_, rfl, rfl⟩, ⟨_, rfl, rfl⟩, ⟨_, rfl, rfl⟩, ⟨_, rfl, rfl⟩, ⟨_, rfl, rfl⟩, ⟨_, rfl, rfl⟩, ⟨_, rfl, rfl⟩, ⟨_, rfl, rfl⟩, ⟨_, rfl, rfl⟩, trivial⟩, tre, rfl⟩))))))))))))))))
       case hp => exact ⟨⟨by dsimp only; omega, by omega, p2.ask2 hao.1 ⟨by omega, by omega⟩ om om⟩, by omega⟩
 ·try have d1 := of_decide_eq_false h1
  refine ev_exit (evx_then (evx_then (evx_hit (et (sq (rg (xl ttOk rfl rfl (xst ttOk rfl rfl (nl (et (ev_ret ?_)))))))))))
  obtain rfl : k = m := by omega
  refine ret_roll lg δ ttOk rfl rfl rfl rfl ?_ ?_
  ·simp [RpLe, L2, RcLe]
  ·exact p2
section
variable {n : LogN} {k : Nat}
theorem Lg.risen (h : Lg k n) (F : List Int) : ∃ r, risenF (fallenLogF n F).two = (r, true) ∧ Lg k r ∧ n.durable ≤ r.durable ∧ n.head.base ≤ r.head.base ∧ r.owe = [] ∧ r.more = false := by
 have h0 := h.rise F
 obtain ⟨hd, es, m, c, h1, h2, h3, h4, h5, h6⟩ := h.j.rise F
 rw [fallen_two h.ok] at h0 ⊢
 rw [h5] at h0
 refine ⟨_, h5, h0, ?_, ?_, rfl, rfl⟩
 ·show n.durable ≤ lastB ⟨hd.base, hd.time, es.take m⟩
  unfold lastB
  simp only [List.length_take]
  omega
 ·show n.head.base ≤ hd.base
  rcases h1 with ⟨rfl, _⟩ | ⟨hm, rfl, _⟩
  ·exact Int.le_refl _
  ·have := (h.j.next hm).2.2.1; omega
end
theorem c_w9LogI (m : Int) (hm : 0 ≤ m ∧ m ≤ 18) : Rolls Tryz.prog 135 37 [one (iC m)] (α := LogN) (fun n => Lg m.toNat n) (fun n => [many' (logR n)]) := by
 obtain ⟨k, rfl⟩ := Int.eq_ofNat_of_zero_le hm.1
 exact c_w9Log k om
theorem findM_ins {l : List Mark} {m : Mark} {q : Int} : findM (insF l m) q = if q = m.client then m else findM l q := by
 unfold findM
 rw [find_ins]
 split <;> rfl
theorem over_up {q : Int} : ∀ {es : List Entry} {l c : List Mark}, overL l es = some c → (findM l q).seq ≤ (findM c q).seq ∧ ∀ e ∈ es, e.client = q → e.seq ≤ (findM c q).seq
 | [], l, c, h => by cases h; exact ⟨Int.le_refl _, fun e he => by simp at he⟩
 | e :: es, l, c, h => by
  unfold overL at h
  split at h
  ·rename_i hf
   obtain ⟨h1, h2⟩ := over_up (q := q) h
   rw [findM_ins] at h1
   simp only [freshF, Bool.and_eq_true, decide_eq_true_eq] at hf
   by_cases hq : q = (eMark e).client
   ·rw [if_pos hq] at h1
    have h1 : e.seq ≤ (findM c q).seq := h1
    have hq2 : q = e.client := hq
    refine ⟨by rw [hq2] at h1 ⊢; omega, fun x hx hc => ?_⟩
    rcases List.mem_cons.1 hx with rfl | hx
    ·exact h1
    ·exact h2 x hx hc
   ·rw [if_neg hq] at h1
    refine ⟨h1, fun x hx hc => ?_⟩
    rcases List.mem_cons.1 hx with rfl | hx
    ·exact absurd hc.symm hq
    ·exact h2 x hx hc
  ·cases h
theorem over_src {q : Int} : ∀ {es : List Entry} {l c : List Mark}, overL l es = some c → findM c q = findM l q ∨ ∃ e ∈ es, e.client = q ∧ findM c q = eMark e
 | [], l, c, h => by cases h; exact .inl rfl
 | e :: es, l, c, h => by
  unfold overL at h
  split at h
  ·rcases over_src (q := q) h with h1 | ⟨x, hx, h1, h2⟩
   ·rw [findM_ins] at h1
    by_cases hq : q = (eMark e).client
    ·rw [if_pos hq] at h1
     exact .inr ⟨e, by simp, hq.symm, h1⟩
    ·rw [if_neg hq] at h1
     exact .inl h1
   ·exact .inr ⟨x, by simp [hx], h1, h2⟩
  ·cases h
def Told (n : LogN) (t : Ack) : Prop :=
 (t.index = 0 ∧ t.seq < t.last) ∨ (1 ≤ t.index ∧ t.index ≤ n.durable ∧ ((t.seq ≤ (findM n.head.seen t.client).seq ∧ t.index ≤ n.head.base) ∨ ∃ j, ∃ hj : j < n.book.entries.length, n.book.entries[j].index = t.index ∧ n.book.entries[j].client = t.client ∧ n.book.entries[j].seq = t.seq))
def Left (d : Int) (r : LogN) (t : Ack) : Prop :=
 (t.index = 0 ∧ t.seq < t.last) ∨ (1 ≤ t.index ∧ t.index ≤ d ∧ t.seq ≤ (findM r.seen t.client).seq ∧ (r.head.base < t.index → (entAtF r.book t.index).2 = true ∧ (entAtF r.book t.index).1.client = t.client ∧ (entAtF r.book t.index).1.seq = t.seq))
theorem ent_at {b : Book} (hb : bookOk b = true) {j : Nat} (hj : j < b.entries.length) {i : Int} (hi : i = b.base + 1 + j) : entAtF b i = (b.entries[j], true) := by
 have hx : inB i (b.base + 1) (lastB b) = true := inB_iff.2 ⟨by omega, by unfold lastB; omega⟩
 unfold entAtF
 rw [hb, hx, atB_eq (m := j) om hj]
 rfl
theorem Lg.left {n : LogN} {k : Nat} (h : Lg k n) {F : List Int} {r : LogN} (hr : risenF (fallenLogF n F).two = (r, true)) {t : Ack} (ht : Told n t) : Left n.durable r t := by
 obtain ⟨hd, es, m, c, h1, h2, h3, h4, h5, h6⟩ := h.j.rise F
 rw [fallen_two h.ok, h5] at hr
 obtain rfl : riseL hd (es.take m) c = r := by injection hr
 rcases ht with ht | ⟨ht1, ht2, ht⟩
 ·exact .inl ht
 refine .inr ⟨ht1, ht2, ?_⟩
 show t.seq ≤ (findM c t.client).seq ∧ (hd.base < t.index → (entAtF ⟨hd.base, hd.time, es.take m⟩ t.index).2 = true ∧ (entAtF ⟨hd.base, hd.time, es.take m⟩ t.index).1.client = t.client ∧ (entAtF ⟨hd.base, hd.time, es.take m⟩ t.index).1.seq = t.seq)
 obtain ⟨u1, u2⟩ := over_up (q := t.client) h4
 have hbk : bookOk (⟨hd.base, hd.time, es.take m⟩ : Book) = true := h6.parts.2.2.1
 have hbe := (log_bases h.ok).1
 rcases h1 with ⟨rfl, rfl⟩ | ⟨hm, rfl, rfl⟩
 ·rcases ht with ⟨a1, a2⟩ | ⟨j, hj, a1, a2, a3⟩
  ·exact ⟨by omega, fun hx => absurd hx om⟩
  ·have hix := (h.j.ix hj).1
   have hjm : j < (n.book.entries.take m).length := by simp; omega
   have hej : (n.book.entries.take m)[j] = n.book.entries[j] := by simp
   refine ⟨?_, fun hx => ?_⟩
   ·have := u2 n.book.entries[j] (hej ▸ List.getElem_mem hjm) a2
    omega
   ·rw [ent_at hbk hjm (by show t.index = n.head.base + 1 + j; omega)]
    simp only [hej]
    exact ⟨trivial, a2, a3⟩
 ·obtain ⟨n1, n2, n3, n4, n5⟩ := h.j.next hm
  have hdu := log_dur h.ok
  have ho := (next_over h.ok (x := n.next.base) om om).1
  rw [← n5] at ho
  obtain ⟨v1, v2⟩ := over_up (q := t.client) ho
  rcases ht with ⟨a1, a2⟩ | ⟨j, hj, a1, a2, a3⟩
  ·exact ⟨by omega, fun hx => absurd hx om⟩
  ·have hix := (h.j.ix hj).1
   rcases Nat.lt_or_ge j (n.next.base - n.book.base).toNat with h9 | h9
   ·have hjm : j < (n.book.entries.take (n.next.base - n.book.base).toNat).length := by simp; omega
    have hej : (n.book.entries.take (n.next.base - n.book.base).toNat)[j] = n.book.entries[j] := by simp
    have := v2 n.book.entries[j] (hej ▸ List.getElem_mem hjm) a2
    exact ⟨by omega, fun hx => absurd hx om⟩
   ·have hle : (n.book.entries.drop (n.next.base - n.book.base).toNat).length = n.book.entries.length - (n.next.base - n.book.base).toNat := by simp
    have hjm : j - (n.next.base - n.book.base).toNat < ((n.book.entries.drop (n.next.base - n.book.base).toNat).take m).length := by
     rw [List.length_take]; omega
    have hej : ((n.book.entries.drop (n.next.base - n.book.base).toNat).take m)[j - (n.next.base - n.book.base).toNat] = n.book.entries[j] := by
     simp only [List.getElem_take, List.getElem_drop]
     congr 1
     omega
    refine ⟨?_, fun hx => ?_⟩
    ·have := u2 n.book.entries[j] (hej ▸ List.getElem_mem hjm) a2
     omega
    ·rw [ent_at hbk hjm (by show t.index = n.next.base + 1 + _; omega)]
     simp only [hej]
     exact ⟨trivial, a2, a3⟩
section
variable {n : LogN} {k : Nat}
theorem Lg.toldS (h : Lg k n) : ∀ t ∈ (syncedF n).2, Told (syncedF n).1 t := by
 intro t ht
 have hdu := log_dur h.ok
 have hto : (syncedF n).2 = n.owe := by
  cases hm : n.more
  ·rw [sy_less h.ok hm]
  ·rw [sy_more h.ok hm]
 rw [hto, log_owe h.ok] at ht
 obtain ⟨e, he, rfl⟩ := List.mem_map.1 ht
 obtain ⟨he, hi⟩ := List.mem_filter.1 he
 obtain ⟨j, hj, rfl⟩ := List.mem_iff_getElem.1 he
 obtain ⟨hix, _, hok⟩ := h.j.ix hj
 have hi := inB_iff.1 hi
 have hb := h.base
 have hla : lastB n.book = n.book.base + n.book.entries.length := rfl
 have ha : ackF n.book.entries[j] = ⟨n.book.entries[j].client, n.book.entries[j].seq, n.book.entries[j].index, n.book.entries[j].seq⟩ := by unfold ackF; rw [if_pos hok]
 rw [ha]
 refine .inr ?_
 cases hm : n.more
 ·rw [sy_less h.ok hm]
  exact ⟨by show 1 ≤ n.book.entries[j].index; omega, by show n.book.entries[j].index ≤ lastB n.book; omega, .inr ⟨j, hj, rfl, rfl, rfl⟩⟩
 ·obtain ⟨n1, n2, n3, n4, n5⟩ := h.j.next hm
  have hbe := (log_bases h.ok).1
  have hx : inB n.next.base n.book.base (lastB n.book) = true := inB_iff.2 ⟨by omega, by omega⟩
  rw [sy_more h.ok hm, tr_yes h.j.parts.2.2.1 hx]
  refine ⟨by show 1 ≤ n.book.entries[j].index; omega, by show n.book.entries[j].index ≤ lastB n.book; omega, .inr ⟨j - (n.next.base - n.book.base).toNat, ?_, ?_⟩⟩
  ·show _ < (n.book.entries.drop _).length
   rw [List.length_drop]; omega
  ·have hej : (n.book.entries.drop (n.next.base - n.book.base).toNat)[j - (n.next.base - n.book.base).toNat]'(by rw [List.length_drop]; omega) = n.book.entries[j] := by
    rw [List.getElem_drop]
    congr 1
    omega
   show ((n.book.entries.drop (n.next.base - n.book.base).toNat)[j - (n.next.base - n.book.base).toNat]'_).index = _ ∧ ((n.book.entries.drop (n.next.base - n.book.base).toNat)[j - (n.next.base - n.book.base).toNat]'_).client = _ ∧ ((n.book.entries.drop (n.next.base - n.book.base).toNat)[j - (n.next.base - n.book.base).toNat]'_).seq = _
   rw [hej]
   exact ⟨rfl, rfl, rfl⟩
theorem Lg.toldA (h : Lg k n) {a : Ask} {now : Int} (ha : askOkF a = true) (hn : timeOk now = true) : ∀ t ∈ (askedF n a now).2, Told (askedF n a now).1 t := by
 intro t ht
 have hq : 1 ≤ a.seq := by
  have := ha
  simp only [askOkF, seqOk, Bool.and_eq_true] at this
  exact (inB_iff.1 this.2.1).1
 rcases Int.lt_trichotomy (findM n.seen a.client).seq a.seq with hs | hs | hs
 ·rw [ak_fresh h.ok ha hn hs] at ht
  simp at ht
 ·rcases Int.lt_or_le n.durable (findM n.seen a.client).index with h9 | h9
  ·rw [ak_wait h.ok ha hn hs.symm h9] at ht
   simp at ht
  ·have e := ak_told h.ok ha hn hs.symm om
   rw [e] at ht ⊢
   obtain rfl := List.mem_singleton.1 ht
   obtain ⟨o1, o2, o3⟩ := log_seen h.ok
   rcases find_noMark o3 a.client with ⟨_, e2⟩ | ⟨m, hm, hmc, hmk, _, e2⟩
   ·rw [e2] at hs
    exact absurd hs (by show ¬ (0 : Int) = _; omega)
   ·have hmi : 1 ≤ m.index := by
     simp only [markOk, indexOk, Bool.and_eq_true] at hmk
     exact (inB_iff.1 hmk.2.2).1
    refine .inr ⟨by show 1 ≤ (findM n.seen a.client).index; rw [e2]; exact hmi, h9, ?_⟩
    show (a.seq ≤ (findM n.head.seen a.client).seq ∧ (findM n.seen a.client).index ≤ n.head.base) ∨ ∃ j, ∃ hj : j < n.book.entries.length, n.book.entries[j].index = (findM n.seen a.client).index ∧ n.book.entries[j].client = a.client ∧ n.book.entries[j].seq = a.seq
    rcases over_src (q := a.client) o1 with e3 | ⟨x, hx, e3, e4⟩
    ·refine .inl ⟨by rw [← e3]; omega, ?_⟩
     have hh := h.j.parts.2.1
     have hl : lastF n.head.seen ≤ n.head.base := by
      simp only [headOk, Bool.and_eq_true, decide_eq_true_eq] at hh
      omega
     have hall := (lastF_le.1 hl).2
     rw [e3]
     rcases find_noMark o2 a.client with ⟨_, e5⟩ | ⟨m2, hm2, _, _, _, e5⟩
     ·rw [e5]; exact (h.bd).1
     ·rw [e5]; exact hall _ hm2
    ·obtain ⟨j, hj, rfl⟩ := List.mem_iff_getElem.1 hx
     refine .inr ⟨j, hj, by rw [e4]; rfl, e3, ?_⟩
     rw [← hs, e4]
     rfl
 ·rw [ak_old h.ok ha hn hs] at ht ⊢
  obtain rfl := List.mem_singleton.1 ht
  exact .inl ⟨rfl, hs⟩
end
theorem Lg.synced3 {n : LogN} {k : Nat} (h : Lg k n) : ∃ (n2 : LogN) (tl : List Ack), syncedF n = (n2, tl) ∧ Lg (k + 1) n2 ∧ (∀ t ∈ tl, Told n2 t) ∧ tl.length ≤ 20 := by
 refine ⟨(syncedF n).1, (syncedF n).2, rfl, h.sync.mono om, h.toldS, ?_⟩
 have := (log_small h.ok).2.2.2.2
 cases hm : n.more
 ·rw [sy_less h.ok hm]; exact this
 ·rw [sy_more h.ok hm]; exact this
theorem Lg.asked3 {n : LogN} {k : Nat} (h : Lg k n) {a : Ask} {now : Int} (ha : askOkF a = true) (hn : 0 ≤ now ∧ now < 1000) (hk : k < 19) (hq : a.seq ≤ 10 + k) : ∃ (n2 : LogN) (tl : List Ack), askedF n a now = (n2, tl) ∧ Lg (k + 1) n2 ∧ (∀ t ∈ tl, Told n2 t) ∧ tl.length ≤ 20 := by
 refine ⟨(askedF n a now).1, (askedF n a now).2, rfl, h.ask2 ha hn hk hq, h.toldA ha (time_small hn), ?_⟩
 have ht := time_small hn
 rcases Int.lt_trichotomy (findM n.seen a.client).seq a.seq with hs | hs | hs
 ·rw [ak_fresh h.ok ha ht hs]; simp
 ·rcases Int.lt_or_le n.durable (findM n.seen a.client).index with h9 | h9
  ·rw [ak_wait h.ok ha ht hs.symm h9]; simp
  ·rw [ak_told h.ok ha ht hs.symm om]; simp
 ·rw [ak_old h.ok ha ht hs]; simp
end Go.Proofs.YtinmcdcmidlgpaaGreatDoor
