/- Walks of functions of the program, printed by a program of the prover. -/
import Derived.Test.YtinmcdcmidlgpaaGreatDoorRgF79
namespace Go.Proofs.YtinmcdcmidlgpaaGreatDoor
open Go.ChangeShapes Go.WideShapes Go.ChangeAt Go.RowKit
set_option linter.unusedVariables false
set_option linter.unusedSimpArgs false
set_option maxHeartbeats 1000000
set_option maxRecDepth 100000
attribute [local irreducible] EvL Ev EvE Quiet Eff Pure RDk RDb RDo
theorem L_Ring (l : List Int) (hl : ∀ x ∈ l, 0 ≤ x ∧ x ≤ 255) : Pure Tryz.prog 6 [one (bytes l)] (bR true) := by
 refine pure_intro (N := 111) Tryz.func6 rfl rfl rfl rfl (fun H w => ?_)
 refine sq (rg (xs rfl rfl (nl (et (sq (sq (rg (xm rfl rfl (evl_call (nm := 16) (cf rfl) (c_big _) (rs_of rfl) rfl rfl rfl (nl (et (ev_cond rfl (fun h1 => ?_) (fun h1 => ?_)))))))))))))
 ·try have d1 := of_decide_eq_true h1
  refine sq (rg (xs rfl rfl (nl (et (ev_ret (evr_then (ret_pure' ttOk rfl rfl ?_)))))))
  rfl
 ·try have d1 := of_decide_eq_false h1
  have hn0 : ¬ (l.length : Int) > 4096 := of_decide_eq_false h1
  refine ev_skip (et (sq (rg (xm rfl rfl (evl_mkroll (cf rfl) (c_roll 930) rfl rfl hl om rfl rfl (fun g v0 δ0 hg hsrc => ?_))))))
  refine xs rfl rfl (nl (et (sq (rg (evl_call (nm := 19) (cf rfl) c_NewLog' (rs_of rfl) rfl rfl rfl (evl_e (e_alloc ttOk rfl rfl rfl rfl) (xst ttOk rfl rfl (nl (et (sq (sq (rg (xs rfl rfl (nl (et (ev_blk (ev_loop (fun i : Nat × LogN × DS l.length => (⟨[(18, pbV 18 0), (3, pbV 18 0), (4, pbV 4 0), (5, iV i.1)], [(4, 55, [.rt 101, .rt 102, .rt 103, .rt 104, .c (iC i.2.1.head.num), .c (iC i.2.1.head.base), .c (iC i.2.1.head.time), .rt 105, .c (iC i.2.1.next.num), .c (iC i.2.1.next.base), .c (iC i.2.1.next.time), .rt 106, .c (bC i.2.1.more), .c (iC i.2.1.book.base), .c (iC i.2.1.book.time), .rt 107, .rt 108, .c (iC i.2.1.durable), .rt 109]), (18, 135, diceA v0 i.2.2)], [(101, 74, 1, (i.2.1.two.a.kept.map fun r => [ints r])), (102, 212, 2, (i.2.1.two.a.wait.map fun x => [iC x.1, ints x.2])), (103, 74, 1, (i.2.1.two.b.kept.map fun r => [ints r])), (104, 212, 2, (i.2.1.two.b.wait.map fun x => [iC x.1, ints x.2])), (105, 94, 3, (i.2.1.head.seen.map markC)), (106, 94, 3, (i.2.1.next.seen.map markC)), (107, 80, 9, (i.2.1.book.entries.map entryC)), (108, 94, 3, (i.2.1.seen.map markC)), (109, 83, 4, (i.2.1.owe.map ackC))], []⟩ : St)) (fun i => i.1 ≤ 20 ∧ Nt i.1 i.1 i.2.1 ∧ i.2.1.head.base = 0) (fun i => 20 - i.1) (0, newLogF, δ0) [(101, 19), (102, 1019), (103, 2019), (104, 3019), (105, 4019), (106, 5019), (107, 6019), (108, 7019), (109, 8019)] (⟨by omega, newNt, rfl⟩) ⟨trf, trf, ⟨⟨_, rfl, by rfl⟩, ⟨_, rfl, by rfl⟩, ⟨_, rfl, by rfl⟩, ⟨_, rfl, by rfl⟩, ⟨_, rfl, by rfl⟩, ⟨_, rfl, by rfl⟩, ⟨_, rfl, by rfl⟩, ⟨_, rfl, by rfl⟩, ⟨_, rfl, by rfl⟩, trivial⟩, tre, rfl⟩ ?_)))))))))))))))))
  intro i hp
  obtain ⟨k, lg, δ⟩ := i
  have hp : k ≤ 20 ∧ Nt k k lg ∧ lg.head.base = 0 := hp
  obtain ⟨p0, p1, p2⟩ := hp
  show Ev _ _ _ _ (⟨[(18, pbV 18 0), (3, pbV 18 0), (4, pbV 4 0), (5, iV k)], [(4, 55, [.rt 101, .rt 102, .rt 103, .rt 104, .c (iC lg.head.num), .c (iC lg.head.base), .c (iC lg.head.time), .rt 105, .c (iC lg.next.num), .c (iC lg.next.base), .c (iC lg.next.time), .rt 106, .c (bC lg.more), .c (iC lg.book.base), .c (iC lg.book.time), .rt 107, .rt 108, .c (iC lg.durable), .rt 109]), (18, 135, diceA v0 δ)], [(101, 74, 1, (lg.two.a.kept.map fun r => [ints r])), (102, 212, 2, (lg.two.a.wait.map fun x => [iC x.1, ints x.2])), (103, 74, 1, (lg.two.b.kept.map fun r => [ints r])), (104, 212, 2, (lg.two.b.wait.map fun x => [iC x.1, ints x.2])), (105, 94, 3, (lg.head.seen.map markC)), (106, 94, 3, (lg.next.seen.map markC)), (107, 80, 9, (lg.book.entries.map entryC)), (108, 94, 3, (lg.seen.map markC)), (109, 83, 4, (lg.owe.map ackC))], []⟩ : St)
  refine sq (sq (rg (xm rfl rfl (xb ttOk rfl rfl (nl (et (ev_cond rfl (fun h2 => ?_) (fun h2 => ?_))))))))
  ·try have d2 := of_decide_eq_true h2
   refine ev_skip (et (sq (ev_blk (ev_drawd [10] g mo (rdd_take 18 18 0 rfl kr trivial rfl rfl rfl rfl (q_load ttOk rfl) rfl rfl (rdd_pure 1 rfl kr trivial (qw_move rfl) rfl (rdd_take 18 18 2 rfl kr trivial rfl rfl rfl rfl (q_load ttOk rfl) rfl rfl (rdd_pure 4 rfl kr trivial (qw_move rfl) rfl (rdd_1 3 kr (rddo_roll (nm := 28) 18 rfl trivial rfl rfl (cf rfl) (c_w9Fresh lg p1.lg.seenOk) rfl rfl hsrc (rs_of rfl) (fun _ => rfl) (fun aa δ3 r3 => ?_)))))))))))
   refine rdk rfl rfl rfl ?_
   have hfr := r3
   have hfa := p1.lg.fresh_ok r3.1 r3.2.1 r3.2.2 om
   refine rdd_1 5 kr (rddo_roll (nm := 30) 18 rfl trivial rfl rfl (cf rfl) (c_below _ om) rfl rfl hsrc (rs_of rfl) (fun _ => rfl) (fun x4 δ4 r4 => ?_))
   refine rdk rfl rfl rfl ?_
   obtain ⟨r4a, r4b⟩ := r4
   refine rdd_1 6 kr ?_
   first | refine rddo_call (nm := 31) rfl trivial (cf rfl) (c_AskedOf1 n3 ab _ (q2.nt.ask1 hfa.1 ⟨by omega, by omega⟩ om om)) (rs_of rfl) rfl rfl rfl ?_ | refine rddo_call (nm := 31) rfl trivial (cf rfl) (c_AskedOf1 lg aa _ (p1.ask1 hfa.1 ⟨by omega, by omega⟩ om om)) (rs_of rfl) rfl rfl rfl ?_
   refine rdd_pure 7 rfl kr trivial (qw_move rfl) rfl (rdd_pure 8 rfl kr trivial (qw_ext rfl) rfl (rdd_pure 9 rfl kr trivial (qw_ext rfl) rfl (rdd_1 10 kr (rddo_brk rfl kr trivial (e_store ttOk rfl) (rdd_endq kr (eb (et (rg (xm rfl rfl (xa rfl rfl rfl om rfl (xs rfl rfl (nl (eve_round (k + 1, (askedF lg aa x4).1, δ4) [(101, 31), (102, 1031), (103, 2031), (104, 3031), (105, 4031), (106, 5031), (107, 6031), (108, 7031), (109, 8031)] ?hp ⟨trf, trf, ⟨⟨_, rfl, rfl⟩, ⟨_, rfl, rfl⟩, ⟨_, rfl, rfl⟩, ⟨_, rfl, rfl⟩, ⟨_, rfl, rfl⟩, ⟨_, rfl, rfl⟩, ⟨_, rfl, rfl⟩, ⟨_, rfl, rfl⟩, ⟨_, rfl, rfl⟩, trivial⟩, tre, rfl⟩)))))))))))))
   case hp =>
    obtain ⟨g1, g2, g3, g4⟩ := p1.ask hfr.1 hfr.2.1 hfr.2.2 (now := x4) ⟨by omega, by omega⟩ om om
    exact ⟨⟨by omega, g1, by rw [g2]; exact p2⟩, by omega⟩
  ·try have d2 := of_decide_eq_false h2
   refine ev_exit (evx_then (evx_then (evx_hit (et (sq ?_)))))
   obtain rfl : k = 20 := by omega
   have cS1 := c_SyncedLog' lg
   refine rg (xl ttOk rfl rfl ?_)
   first | refine evl_call (nm := 36) (cf rfl) cS3 (rs_of rfl) rfl rfl rfl ?_ | refine evl_call (nm := 36) (cf rfl) cS2 (rs_of rfl) rfl rfl rfl ?_ | refine evl_call (nm := 36) (cf rfl) cS1 (rs_of rfl) rfl rfl rfl ?_
   refine xm rfl rfl (xo (q_ext rfl) rfl (xo (q_ext rfl) rfl (xst ttOk rfl rfl (nl (et (sq (rg (xm rfl rfl (evl_roll (nm := 40) (cf rfl) (c_below _ om) rfl rfl hsrc (rs_of rfl) (fun _ => rfl) (fun yb δ5 r5 => ?_))))))))))
   refine rlk rfl rfl rfl ?_
   obtain ⟨r5a, r5b⟩ := r5
   refine xa rfl rfl rfl om rfl (xs rfl rfl (nl (et (sq ?_))))
   obtain ⟨bb, hbe⟩ : ∃ bb : Int, bb = 3 + yb := ⟨_, rfl⟩
   rw [← hbe]
   have hbb : 3 ≤ bb ∧ bb ≤ 9 := by omega
   obtain ⟨hR0, hH20⟩ := p1.ring p2 hbb
   have cT := c_TrimAsked' (syncedF lg).1 bb
   have cS2 := c_SyncedLog' (trimAskedF (syncedF lg).1 bb)
   have cH2 := c_HeldIn' (syncedF (trimAskedF (syncedF lg).1 bb)).1
   generalize syncedF (trimAskedF (syncedF lg).1 bb) = s2 at cS2 cH2 hR0 hH20
   obtain ⟨n2, k2⟩ := s2
   dsimp only at cS2 cH2 hR0 hH20
   generalize heldF n2 = H at cH2 hR0 hH20
   refine rg (xl ttOk rfl rfl (xm rfl rfl (evl_call (nm := 45) (cf rfl) cT (rs_of rfl) rfl rfl rfl ?_)))
   first | refine evl_call (nm := 46) (cf rfl) cS3 (rs_of rfl) rfl rfl rfl ?_ | refine evl_call (nm := 46) (cf rfl) cS2 (rs_of rfl) rfl rfl rfl ?_ | refine evl_call (nm := 46) (cf rfl) cS1 (rs_of rfl) rfl rfl rfl ?_
   refine xm rfl rfl (xo (q_ext rfl) rfl (xo (q_ext rfl) rfl (xst ttOk rfl rfl (nl (et (sq (rg (xl ttOk rfl rfl ?_))))))))
   first | refine evl_call (nm := 50) (cf rfl) cB (rs_of rfl) rfl rfl rfl ?_ | refine evl_call (nm := 50) (cf rfl) cH3 (rs_of rfl) rfl rfl rfl ?_ | refine evl_call (nm := 50) (cf rfl) cH2 (rs_of rfl) rfl rfl rfl ?_
   refine xs rfl rfl (nl (et (sq (sq (rg (xm rfl rfl (xs rfl rfl (nl (et (ev_blk (ev_loop (fun i : Nat × Int × LogN × DS l.length => (⟨[(18, pbV 18 0), (3, pbV 18 0), (4, pbV 4 0), (6, iV bb), (7, .p false [.rt 202]), (8, iV i.2.1)], [(4, 55, [.rt 301, .rt 302, .rt 303, .rt 304, .c (iC i.2.2.1.head.num), .c (iC i.2.2.1.head.base), .c (iC i.2.2.1.head.time), .rt 305, .c (iC i.2.2.1.next.num), .c (iC i.2.2.1.next.base), .c (iC i.2.2.1.next.time), .rt 306, .c (bC i.2.2.1.more), .c (iC i.2.2.1.book.base), .c (iC i.2.2.1.book.time), .rt 307, .rt 308, .c (iC i.2.2.1.durable), .rt 309]), (18, 135, diceA v0 i.2.2.2)], [(202, 80, 9, (H.map entryC)), (301, 74, 1, (i.2.2.1.two.a.kept.map fun r => [ints r])), (302, 212, 2, (i.2.2.1.two.a.wait.map fun x => [iC x.1, ints x.2])), (303, 74, 1, (i.2.2.1.two.b.kept.map fun r => [ints r])), (304, 212, 2, (i.2.2.1.two.b.wait.map fun x => [iC x.1, ints x.2])), (305, 94, 3, (i.2.2.1.head.seen.map markC)), (306, 94, 3, (i.2.2.1.next.seen.map markC)), (307, 80, 9, (i.2.2.1.book.entries.map entryC)), (308, 94, 3, (i.2.2.1.seen.map markC)), (309, 83, 4, (i.2.2.1.owe.map ackC))], []⟩ : St)) (fun i => i.2.1 = bb - i.1 ∧ i.1 ≤ bb ∧ Rg bb i.1 H i.2.2.1) (fun i => bb.toNat - i.1) (0, bb, n2, δ5) [(202, 50), (301, 46), (302, 1046), (303, 2046), (304, 3046), (305, 4046), (306, 5046), (307, 6046), (308, 7046), (309, 8046)] (⟨by simp, by omega, hR0⟩) ⟨trf, trf, ⟨⟨_, rfl, by rfl⟩, ⟨_, rfl, by rfl⟩, ⟨_, rfl, by rfl⟩, ⟨_, rfl, by rfl⟩, ⟨_, rfl, by rfl⟩, ⟨_, rfl, by rfl⟩, ⟨_, rfl, by rfl⟩, ⟨_, rfl, by rfl⟩, ⟨_, rfl, by rfl⟩, ⟨_, rfl, by rfl⟩, trivial⟩, tre, rfl⟩ ?_)))))))))))
   intro i hp
   obtain ⟨k, z, n3, δ⟩ := i
   have hp : z = bb - k ∧ k ≤ bb ∧ Rg bb k H n3 := hp
   obtain ⟨q0, q1, q2⟩ := hp
   show Ev _ _ _ _ (⟨[(18, pbV 18 0), (3, pbV 18 0), (4, pbV 4 0), (6, iV bb), (7, .p false [.rt 202]), (8, iV z)], [(4, 55, [.rt 301, .rt 302, .rt 303, .rt 304, .c (iC n3.head.num), .c (iC n3.head.base), .c (iC n3.head.time), .rt 305, .c (iC n3.next.num), .c (iC n3.next.base), .c (iC n3.next.time), .rt 306, .c (bC n3.more), .c (iC n3.book.base), .c (iC n3.book.time), .rt 307, .rt 308, .c (iC n3.durable), .rt 309]), (18, 135, diceA v0 δ)], [(202, 80, 9, (H.map entryC)), (301, 74, 1, (n3.two.a.kept.map fun r => [ints r])), (302, 212, 2, (n3.two.a.wait.map fun x => [iC x.1, ints x.2])), (303, 74, 1, (n3.two.b.kept.map fun r => [ints r])), (304, 212, 2, (n3.two.b.wait.map fun x => [iC x.1, ints x.2])), (305, 94, 3, (n3.head.seen.map markC)), (306, 94, 3, (n3.next.seen.map markC)), (307, 80, 9, (n3.book.entries.map entryC)), (308, 94, 3, (n3.seen.map markC)), (309, 83, 4, (n3.owe.map ackC))], []⟩ : St)
   refine sq (sq (rg (xm rfl rfl (xb ttOk rfl rfl (nl (et (ev_cond rfl (fun h6 => ?_) (fun h6 => ?_))))))))
   ·try have d6 := of_decide_eq_true h6
    refine ev_skip (et (sq (ev_blk (ev_drawd [10] g mo (rdd_take 18 18 0 rfl kr trivial rfl rfl rfl rfl (q_load ttOk rfl) rfl rfl (rdd_pure 1 rfl kr trivial (qw_move rfl) rfl (rdd_take 18 18 2 rfl kr trivial rfl rfl rfl rfl (q_load ttOk rfl) rfl rfl (rdd_pure 4 rfl kr trivial (qw_move rfl) rfl (rdd_1 3 kr (rddo_roll (nm := 60) 18 rfl trivial rfl rfl (cf rfl) (c_w9Fresh n3 q2.nt.lg.seenOk) rfl rfl hsrc (rs_of rfl) (fun _ => rfl) (fun ab δ7 r7 => ?_)))))))))))
    refine rdk rfl rfl rfl ?_
    have hfr := r7
    have hfa := q2.nt.lg.fresh_ok r7.1 r7.2.1 r7.2.2 om
    refine rdd_1 5 kr (rddo_roll (nm := 62) 18 rfl trivial rfl rfl (cf rfl) (c_below _ om) rfl rfl hsrc (rs_of rfl) (fun _ => rfl) (fun x8 δ8 r8 => ?_))
    refine rdk rfl rfl rfl ?_
    obtain ⟨r8a, r8b⟩ := r8
    refine rdd_1 6 kr ?_
    first | refine rddo_call (nm := 63) rfl trivial (cf rfl) (c_AskedOf1 n3 ab _ (q2.nt.ask1 hfa.1 ⟨by omega, by omega⟩ om om)) (rs_of rfl) rfl rfl rfl ?_ | refine rddo_call (nm := 63) rfl trivial (cf rfl) (c_AskedOf1 lg aa _ (p1.ask1 hfa.1 ⟨by omega, by omega⟩ om om)) (rs_of rfl) rfl rfl rfl ?_
    refine rdd_pure 7 rfl kr trivial (qw_move rfl) rfl (rdd_pure 8 rfl kr trivial (qw_ext rfl) rfl (rdd_pure 9 rfl kr trivial (qw_ext rfl) rfl (rdd_1 10 kr (rddo_brk rfl kr trivial (e_store ttOk rfl) (rdd_endq kr (eb (et (rg (xm rfl rfl (xa rfl rfl rfl om rfl (xs rfl rfl (nl (eve_round (k + 1, z - 1, (askedF n3 ab x8).1, δ8) [(301, 63), (302, 1063), (303, 2063), (304, 3063), (305, 4063), (306, 5063), (307, 6063), (308, 7063), (309, 8063)] ?hp ⟨trf, trf, ⟨⟨_, rfl, rfl⟩, ⟨_, rfl, rfl⟩, ⟨_, rfl, rfl⟩, ⟨_, rfl, rfl⟩, ⟨_, rfl, rfl⟩, ⟨_, rfl, rfl⟩, ⟨_, rfl, rfl⟩, ⟨_, rfl, rfl⟩, ⟨_, rfl, rfl⟩, ⟨_, rfl, rfl⟩, trivial⟩, tre, rfl⟩)))))))))))))
    case hp => exact ⟨⟨by dsimp only; omega, by omega, q2.next hbb om hfr.1 hfr.2.1 hfr.2.2 ⟨by omega, by omega⟩⟩, by omega⟩
   ·try have d6 := of_decide_eq_false h6
    refine ev_exit (evx_then (evx_then (evx_hit (et (sq ?_)))))
    obtain ⟨A, hA1, hA2, hA3, hA4, hfin⟩ := q2.fin om hbb
    have cS3 := c_SyncedLog' n3
    have cH3 := c_HeldIn' (syncedF n3).1
    rw [hA1] at cH3
    refine rg (xl ttOk rfl rfl ?_)
    first | refine evl_call (nm := 68) (cf rfl) cS3 (rs_of rfl) rfl rfl rfl ?_ | refine evl_call (nm := 68) (cf rfl) cS2 (rs_of rfl) rfl rfl rfl ?_ | refine evl_call (nm := 68) (cf rfl) cS1 (rs_of rfl) rfl rfl rfl ?_
    refine xm rfl rfl (xo (q_ext rfl) rfl (xo (q_ext rfl) rfl (evl_e (e_alloc ttOk rfl rfl rfl rfl) (xst ttOk rfl rfl (xs rfl rfl (nl (et (sq (rg (xl ttOk rfl rfl ?_))))))))))
    first | refine evl_call (nm := 72) (cf rfl) cB (rs_of rfl) rfl rfl rfl ?_ | refine evl_call (nm := 72) (cf rfl) cH3 (rs_of rfl) rfl rfl rfl ?_ | refine evl_call (nm := 72) (cf rfl) cH2 (rs_of rfl) rfl rfl rfl ?_
    refine xs rfl rfl (nl (et (sq (ev_drawd [9] g mo (rdd_take 18 18 0 rfl kr trivial rfl rfl rfl rfl (q_load ttOk rfl) rfl rfl (rdd_pure 1 rfl kr trivial (qw_move rfl) rfl (rdd_2 2 8 kr ?_ ?_)))))))
    ·refine rddo_roll (nm := 76) 18 rfl trivial rfl rfl (cf rfl) (c_w9Fates 20 om) rfl rfl hsrc (rs_of rfl) (fun _ => rfl) (fun x9 δ9 r9 => ?_)
     refine rdk rfl rfl rfl ?_
     have hF : x9.length ≤ 1048576 := by have := r9; omega
     obtain ⟨r, Bk, hr, hBk, hb1, hb2, hb3, hb4⟩ := hfin x9
     have cF := c_FallenLog' n3 x9 hF
     have cR := c_RisenLog1 (fallenLogF n3 x9)
     rw [hr] at cR
     dsimp only at cR
     generalize fallenLogF n3 x9 = f at cF cR
     have cB := c_HeldIn' r
     rw [hBk] at cB
     refine rdd_2 3 8 kr ?_ ?_
     ·refine rddo_call (nm := 77) rfl trivial (cf rfl) cF (rs_of rfl) rfl rfl rfl (rdd_2 4 8 kr ?_ ?_)
      ·refine rddo_call (nm := 78) rfl trivial (cf rfl) cR (rs_of rfl) rfl rfl rfl (rdd_pure 5 rfl kr trivial (qw_move rfl) rfl (rdd_pure 6 rfl kr trivial (qw_ext rfl) rfl (rdd_pure 7 rfl kr trivial (qw_ext rfl) rfl (rdd_1 8 kr (rddo_new rfl trivial (e_alloc ttOk rfl rfl rfl rfl) (rdd_1 9 kr (rddo_brk rfl kr trivial (e_store ttOk rfl) (rdd_pure 10 rfl kr trivial (qw_assign rfl) rfl (rdd_endq kr (et (sq (rg (xl ttOk rfl rfl ?_)))))))))))))
       first | refine evl_call (nm := 82) (cf rfl) cB (rs_of rfl) rfl rfl rfl ?_ | refine evl_call (nm := 82) (cf rfl) cH3 (rs_of rfl) rfl rfl rfl ?_ | refine evl_call (nm := 82) (cf rfl) cH2 (rs_of rfl) rfl rfl rfl ?_
       refine xs rfl rfl (nl (et (sq (rg (xm rfl rfl (xm rfl rfl (gm rfl rfl rfl rfl rfl ?_)))))))
       first | refine go rfl rfl rfl (q_len_rtm ttOk rfl rfl rfl) rfl ?_ | refine go rfl rfl rfl (q_len_map ttOk rfl rfl) rfl ?_
       refine go rfl rfl rfl (q_bin ttOk rfl) rfl (xo (q_pick_t rfl rfl rfl) rfl (xm rfl rfl (gm (decide_eq_true om) rfl rfl rfl rfl (gm (decide_eq_true om) rfl rfl rfl rfl ?_))))
       first | refine evl_callg rfl rfl (decide_eq_true om) (nm := 92) (cf rfl) (c_w9Begins A H hA3) (rs_of rfl) rfl rfl rfl ?_ | refine evl_callg rfl rfl (decide_eq_true om) (nm := 92) (cf rfl) (c_w9Begins A Bk hb1) (rs_of rfl) rfl rfl rfl ?_ | refine evl_callg rfl rfl (decide_eq_true om) (nm := 92) (cf rfl) (c_w9Begins Bk H hb2) (rs_of rfl) rfl rfl rfl ?_
       refine xo (q_pick_t rfl (decide_eq_true om) rfl) rfl (xm rfl rfl (gm rfl rfl rfl rfl rfl (gm rfl rfl rfl rfl rfl ?_)))
       first | refine evl_callg rfl rfl rfl (nm := 97) (cf rfl) (c_w9Begins A H hA3) (rs_of rfl) rfl rfl rfl ?_ | refine evl_callg rfl rfl rfl (nm := 97) (cf rfl) (c_w9Begins A Bk hb1) (rs_of rfl) rfl rfl rfl ?_ | refine evl_callg rfl rfl rfl (nm := 97) (cf rfl) (c_w9Begins Bk H hb2) (rs_of rfl) rfl rfl rfl ?_
       refine xo (q_pick_t rfl rfl rfl) rfl (xm rfl rfl (gm rfl rfl rfl rfl rfl (gm rfl rfl rfl rfl rfl ?_)))
       first | refine evl_callg rfl rfl rfl (nm := 102) (cf rfl) (c_w9Begins A H hA3) (rs_of rfl) rfl rfl rfl ?_ | refine evl_callg rfl rfl rfl (nm := 102) (cf rfl) (c_w9Begins A Bk hb1) (rs_of rfl) rfl rfl rfl ?_ | refine evl_callg rfl rfl rfl (nm := 102) (cf rfl) (c_w9Begins Bk H hb2) (rs_of rfl) rfl rfl rfl ?_
       refine xo (q_pick_t rfl rfl rfl) rfl (xm rfl rfl (go rfl rfl rfl (q_fieldAddr ttOk rfl) rfl (go rfl rfl rfl (q_fieldAddr ttOk rfl) rfl (go rfl rfl rfl (q_load ttOk rfl) rfl (gm rfl rfl rfl rfl rfl (go rfl rfl rfl (q_bin ttOk rfl) rfl (xo (q_pick_t rfl rfl rfl) rfl (xs rfl rfl (nl (et (ev_ret ?_)))))))))))
       exact ret_law hg ttOk rfl rfl (congrArg bR (decide_eq_true hb3))
      ·refine rddo_new rfl trivial (e_alloc ttOk rfl rfl rfl rfl) (rdd_1 4 kr (rddo_call (nm := 78) rfl trivial (cf rfl) cR (rs_of rfl) rfl rfl rfl (rdd_pure 5 rfl kr trivial (qw_move rfl) rfl (rdd_pure 6 rfl kr trivial (qw_ext rfl) rfl (rdd_pure 7 rfl kr trivial (qw_ext rfl) rfl (rdd_1 9 kr (rddo_brk rfl kr trivial (e_store ttOk rfl) (rdd_pure 10 rfl kr trivial (qw_assign rfl) rfl (rdd_endq kr (et (sq (rg (xl ttOk rfl rfl ?_)))))))))))))
       first | refine evl_call (nm := 82) (cf rfl) cB (rs_of rfl) rfl rfl rfl ?_ | refine evl_call (nm := 82) (cf rfl) cH3 (rs_of rfl) rfl rfl rfl ?_ | refine evl_call (nm := 82) (cf rfl) cH2 (rs_of rfl) rfl rfl rfl ?_
       refine xs rfl rfl (nl (et (sq (rg (xm rfl rfl (xm rfl rfl (gm rfl rfl rfl rfl rfl ?_)))))))
       first | refine go rfl rfl rfl (q_len_rtm ttOk rfl rfl rfl) rfl ?_ | refine go rfl rfl rfl (q_len_map ttOk rfl rfl) rfl ?_
       refine go rfl rfl rfl (q_bin ttOk rfl) rfl (xo (q_pick_t rfl rfl rfl) rfl (xm rfl rfl (gm (decide_eq_true om) rfl rfl rfl rfl (gm (decide_eq_true om) rfl rfl rfl rfl ?_))))
       first | refine evl_callg rfl rfl (decide_eq_true om) (nm := 92) (cf rfl) (c_w9Begins A H hA3) (rs_of rfl) rfl rfl rfl ?_ | refine evl_callg rfl rfl (decide_eq_true om) (nm := 92) (cf rfl) (c_w9Begins A Bk hb1) (rs_of rfl) rfl rfl rfl ?_ | refine evl_callg rfl rfl (decide_eq_true om) (nm := 92) (cf rfl) (c_w9Begins Bk H hb2) (rs_of rfl) rfl rfl rfl ?_
       refine xo (q_pick_t rfl (decide_eq_true om) rfl) rfl (xm rfl rfl (gm rfl rfl rfl rfl rfl (gm rfl rfl rfl rfl rfl ?_)))
       first | refine evl_callg rfl rfl rfl (nm := 97) (cf rfl) (c_w9Begins A H hA3) (rs_of rfl) rfl rfl rfl ?_ | refine evl_callg rfl rfl rfl (nm := 97) (cf rfl) (c_w9Begins A Bk hb1) (rs_of rfl) rfl rfl rfl ?_ | refine evl_callg rfl rfl rfl (nm := 97) (cf rfl) (c_w9Begins Bk H hb2) (rs_of rfl) rfl rfl rfl ?_
       refine xo (q_pick_t rfl rfl rfl) rfl (xm rfl rfl (gm rfl rfl rfl rfl rfl (gm rfl rfl rfl rfl rfl ?_)))
       first | refine evl_callg rfl rfl rfl (nm := 102) (cf rfl) (c_w9Begins A H hA3) (rs_of rfl) rfl rfl rfl ?_ | refine evl_callg rfl rfl rfl (nm := 102) (cf rfl) (c_w9Begins A Bk hb1) (rs_of rfl) rfl rfl rfl ?_ | refine evl_callg rfl rfl rfl (nm := 102) (cf rfl) (c_w9Begins Bk H hb2) (rs_of rfl) rfl rfl rfl ?_
       refine xo (q_pick_t rfl rfl rfl) rfl (xm rfl rfl (go rfl rfl rfl (q_fieldAddr ttOk rfl) rfl (go rfl rfl rfl (q_fieldAddr ttOk rfl) rfl (go rfl rfl rfl (q_load ttOk rfl) rfl (gm rfl rfl rfl rfl rfl (go rfl rfl rfl (q_bin ttOk rfl) rfl (xo (q_pick_t rfl rfl rfl) rfl (xs rfl rfl (nl (et (ev_ret ?_)))))))))))
       exact ret_law hg ttOk rfl rfl (congrArg bR (decide_eq_true hb3))
     ·refine rddo_new rfl trivial (e_alloc ttOk rfl rfl rfl rfl) (rdd_1 3 kr (rddo_call (nm := 77) rfl trivial (cf rfl) cF (rs_of rfl) rfl rfl rfl (rdd_1 4 kr (rddo_call (nm := 78) rfl trivial (cf rfl) cR (rs_of rfl) rfl rfl rfl (rdd_pure 5 rfl kr trivial (qw_move rfl) rfl (rdd_pure 6 rfl kr trivial (qw_ext rfl) rfl (rdd_pure 7 rfl kr trivial (qw_ext rfl) rfl (rdd_1 9 kr (rddo_brk rfl kr trivial (e_store ttOk rfl) (rdd_pure 10 rfl kr trivial (qw_assign rfl) rfl (rdd_endq kr (et (sq (rg (xl ttOk rfl rfl ?_)))))))))))))))
      first | refine evl_call (nm := 82) (cf rfl) cB (rs_of rfl) rfl rfl rfl ?_ | refine evl_call (nm := 82) (cf rfl) cH3 (rs_of rfl) rfl rfl rfl ?_ | refine evl_call (nm := 82) (cf rfl) cH2 (rs_of rfl) rfl rfl rfl ?_
      refine xs rfl rfl (nl (et (sq (rg (xm rfl rfl (xm rfl rfl (gm rfl rfl rfl rfl rfl ?_)))))))
      first | refine go rfl rfl rfl (q_len_rtm ttOk rfl rfl rfl) rfl ?_ | refine go rfl rfl rfl (q_len_map ttOk rfl rfl) rfl ?_
      refine go rfl rfl rfl (q_bin ttOk rfl) rfl (xo (q_pick_t rfl rfl rfl) rfl (xm rfl rfl (gm (decide_eq_true om) rfl rfl rfl rfl (gm (decide_eq_true om) rfl rfl rfl rfl ?_))))
      first | refine evl_callg rfl rfl (decide_eq_true om) (nm := 92) (cf rfl) (c_w9Begins A H hA3) (rs_of rfl) rfl rfl rfl ?_ | refine evl_callg rfl rfl (decide_eq_true om) (nm := 92) (cf rfl) (c_w9Begins A Bk hb1) (rs_of rfl) rfl rfl rfl ?_ | refine evl_callg rfl rfl (decide_eq_true om) (nm := 92) (cf rfl) (c_w9Begins Bk H hb2) (rs_of rfl) rfl rfl rfl ?_
      refine xo (q_pick_t rfl (decide_eq_true om) rfl) rfl (xm rfl rfl (gm rfl rfl rfl rfl rfl (gm rfl rfl rfl rfl rfl ?_)))
      first | refine evl_callg rfl rfl rfl (nm := 97) (cf rfl) (c_w9Begins A H hA3) (rs_of rfl) rfl rfl rfl ?_ | refine evl_callg rfl rfl rfl (nm := 97) (cf rfl) (c_w9Begins A Bk hb1) (rs_of rfl) rfl rfl rfl ?_ | refine evl_callg rfl rfl rfl (nm := 97) (cf rfl) (c_w9Begins Bk H hb2) (rs_of rfl) rfl rfl rfl ?_
      refine xo (q_pick_t rfl rfl rfl) rfl (xm rfl rfl (gm rfl rfl rfl rfl rfl (gm rfl rfl rfl rfl rfl ?_)))
      first | refine evl_callg rfl rfl rfl (nm := 102) (cf rfl) (c_w9Begins A H hA3) (rs_of rfl) rfl rfl rfl ?_ | refine evl_callg rfl rfl rfl (nm := 102) (cf rfl) (c_w9Begins A Bk hb1) (rs_of rfl) rfl rfl rfl ?_ | refine evl_callg rfl rfl rfl (nm := 102) (cf rfl) (c_w9Begins Bk H hb2) (rs_of rfl) rfl rfl rfl ?_
      refine xo (q_pick_t rfl rfl rfl) rfl (xm rfl rfl (go rfl rfl rfl (q_fieldAddr ttOk rfl) rfl (go rfl rfl rfl (q_fieldAddr ttOk rfl) rfl (go rfl rfl rfl (q_load ttOk rfl) rfl (gm rfl rfl rfl rfl rfl (go rfl rfl rfl (q_bin ttOk rfl) rfl (xo (q_pick_t rfl rfl rfl) rfl (xs rfl rfl (nl (et (ev_ret ?_)))))))))))
      exact ret_law hg ttOk rfl rfl (congrArg bR (decide_eq_true hb3))
    ·refine rddo_new rfl trivial (e_alloc ttOk rfl rfl rfl rfl) (rdd_1 2 kr (rddo_roll (nm := 76) 18 rfl trivial rfl rfl (cf rfl) (c_w9Fates 20 om) rfl rfl hsrc (rs_of rfl) (fun _ => rfl) (fun x10 δ10 r10 => ?_)))
     refine rdk rfl rfl rfl ?_
     have hF : x10.length ≤ 1048576 := by have := r10; omega
     obtain ⟨r, Bk, hr, hBk, hb1, hb2, hb3, hb4⟩ := hfin x10
     have cF := c_FallenLog' n3 x10 hF
     have cR := c_RisenLog1 (fallenLogF n3 x10)
     rw [hr] at cR
     dsimp only at cR
     generalize fallenLogF n3 x10 = f at cF cR
     have cB := c_HeldIn' r
     rw [hBk] at cB
     refine rdd_1 3 kr (rddo_call (nm := 77) rfl trivial (cf rfl) cF (rs_of rfl) rfl rfl rfl (rdd_1 4 kr (rddo_call (nm := 78) rfl trivial (cf rfl) cR (rs_of rfl) rfl rfl rfl (rdd_pure 5 rfl kr trivial (qw_move rfl) rfl (rdd_pure 6 rfl kr trivial (qw_ext rfl) rfl (rdd_pure 7 rfl kr trivial (qw_ext rfl) rfl (rdd_1 9 kr (rddo_brk rfl kr trivial (e_store ttOk rfl) (rdd_pure 10 rfl kr trivial (qw_assign rfl) rfl (rdd_endq kr (et (sq (rg (xl ttOk rfl rfl ?_))))))))))))))
     first | refine evl_call (nm := 82) (cf rfl) cB (rs_of rfl) rfl rfl rfl ?_ | refine evl_call (nm := 82) (cf rfl) cH3 (rs_of rfl) rfl rfl rfl ?_ | refine evl_call (nm := 82) (cf rfl) cH2 (rs_of rfl) rfl rfl rfl ?_
     refine xs rfl rfl (nl (et (sq (rg (xm rfl rfl (xm rfl rfl (gm rfl rfl rfl rfl rfl ?_)))))))
     first | refine go rfl rfl rfl (q_len_rtm ttOk rfl rfl rfl) rfl ?_ | refine go rfl rfl rfl (q_len_map ttOk rfl rfl) rfl ?_
     refine go rfl rfl rfl (q_bin ttOk rfl) rfl (xo (q_pick_t rfl rfl rfl) rfl (xm rfl rfl (gm (decide_eq_true om) rfl rfl rfl rfl (gm (decide_eq_true om) rfl rfl rfl rfl ?_))))
     first | refine evl_callg rfl rfl (decide_eq_true om) (nm := 92) (cf rfl) (c_w9Begins A H hA3) (rs_of rfl) rfl rfl rfl ?_ | refine evl_callg rfl rfl (decide_eq_true om) (nm := 92) (cf rfl) (c_w9Begins A Bk hb1) (rs_of rfl) rfl rfl rfl ?_ | refine evl_callg rfl rfl (decide_eq_true om) (nm := 92) (cf rfl) (c_w9Begins Bk H hb2) (rs_of rfl) rfl rfl rfl ?_
     refine xo (q_pick_t rfl (decide_eq_true om) rfl) rfl (xm rfl rfl (gm rfl rfl rfl rfl rfl (gm rfl rfl rfl rfl rfl ?_)))
     first | refine evl_callg rfl rfl rfl (nm := 97) (cf rfl) (c_w9Begins A H hA3) (rs_of rfl) rfl rfl rfl ?_ | refine evl_callg rfl rfl rfl (nm := 97) (cf rfl) (c_w9Begins A Bk hb1) (rs_of rfl) rfl rfl rfl ?_ | refine evl_callg rfl rfl rfl (nm := 97) (cf rfl) (c_w9Begins Bk H hb2) (rs_of rfl) rfl rfl rfl ?_
     refine xo (q_pick_t rfl rfl rfl) rfl (xm rfl rfl (gm rfl rfl rfl rfl rfl (gm rfl rfl rfl rfl rfl ?_)))
     first | refine evl_callg rfl rfl rfl (nm := 102) (cf rfl) (c_w9Begins A H hA3) (rs_of rfl) rfl rfl rfl ?_ | refine evl_callg rfl rfl rfl (nm := 102) (cf rfl) (c_w9Begins A Bk hb1) (rs_of rfl) rfl rfl rfl ?_ | refine evl_callg rfl rfl rfl (nm := 102) (cf rfl) (c_w9Begins Bk H hb2) (rs_of rfl) rfl rfl rfl ?_
     refine xo (q_pick_t rfl rfl rfl) rfl (xm rfl rfl (go rfl rfl rfl (q_fieldAddr ttOk rfl) rfl (go rfl rfl rfl (q_fieldAddr ttOk rfl) rfl (go rfl rfl rfl (q_load ttOk rfl) rfl (gm rfl rfl rfl rfl rfl (go rfl rfl rfl (q_bin ttOk rfl) rfl (xo (q_pick_t rfl rfl rfl) rfl (xs rfl rfl (nl (et (ev_ret ?_)))))))))))
     exact ret_law hg ttOk rfl rfl (congrArg bR (decide_eq_true hb3))
end Go.Proofs.YtinmcdcmidlgpaaGreatDoor
