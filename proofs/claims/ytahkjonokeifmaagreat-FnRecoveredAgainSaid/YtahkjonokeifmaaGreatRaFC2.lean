/- Walks of functions of the program, printed by a program of the prover. -/
import Derived.Test.YtahkjonokeifmaaGreatRaFC1
namespace Go.Proofs.YtahkjonokeifmaaGreat.Cur
open Go.ChangeShapes Go.WideShapes Go.ChangeAt Go.RowKit
set_option linter.unusedVariables false
set_option linter.unusedSimpArgs false
set_option maxHeartbeats 1000000
set_option maxRecDepth 100000
attribute [local irreducible] EvL Ev EvE Quiet Eff Pure RDk RDb RDo
@[reducible] def entryR (e : Entry) : List RC := [.v (.int .i64 e.index), .v (.int .i64 e.time), .v (.int .i64 e.client), .v (.int .i64 e.seq), .v (.int .i64 e.kind), .v (.int .i64 e.a), .v (.int .i64 e.b), .v (.int .i64 e.c), .v (.int .i64 e.d)]
def oddL : List Int := [-1, 0, 1, 2147483648, -2147483648, 1099511627776, 4611686018427387904, -4611686018427387904, 9223372036854775807, -9223372036854775808]
theorem c_l1Min (x y : Int) : Pure Tryz.prog 127 [one (iC x), one (iC y)] (iR (min x y)) := by
 refine pure_intro (N := 10) Tryz.func127 rfl rfl rfl rfl (fun H w => ?_)
 refine sq (rg (xs rfl rfl (nl (et (sq (sq (rg (xm rfl rfl (xm rfl rfl (xb ttOk rfl rfl (nl (et (ev_cond rfl (fun h1 => ?_) (fun h1 => ?_))))))))))))))
 ·try have d1 := of_decide_eq_true h1
  refine sq (rg (xm rfl rfl (xs rfl rfl (nl (et (ev_ret (evr_then (ret_pure' ttOk rfl rfl ?_))))))))
  rw [show min x y = x by omega]
 ·try have d1 := of_decide_eq_false h1
  refine ev_skip (et (sq (rg (xm rfl rfl (xs rfl rfl (nl (et (ev_ret (ret_pure' ttOk rfl rfl ?_)))))))))
  rw [show min x y = y by omega]
theorem c_l1Odd  : Rolls Tryz.prog 108 139 [] (α := Int) (fun _ => True) (fun x => iR x) := by
 refine rolls_intro (N := 8) Tryz.func139 rfl rfl rfl rfl (fun H w g v0 bn δ0 hsrc => ?_)
 refine sq (rg (xs rfl rfl (nl (et (sq (rg (evl_e (e_lit ttOk rfl rfl rfl) (xm rfl rfl (evl_roll (nm := 5) (cf rfl) (c_l1Below _) rfl rfl hsrc (rs_of rfl) (fun _ => rfl) (fun x1 δ1 r1 => ?_))))))))))
 refine rlk rfl rfl rfl ?_
 obtain ⟨r1a, r1b⟩ := r1
 refine xo (q_ix_rt (m := x1.toNat) ttOk rfl rfl rfl rfl rfl om (by show _ < 10; omega)) rfl (xo (q_load_pr ttOk rfl rfl rfl rfl (get_map (f := fun x => [iC x]) (L := oddL) (show x1.toNat < 10 by omega)) rfl rfl) rfl (xs rfl rfl (nl (et (ev_ret (ret_roll (oddL[x1.toNat]'(show x1.toNat < 10 by omega)) δ1 ttOk rfl rfl rfl rfl ?_ ?_))))))
 ·simp [RpLe, L2, RcLe]
 ·trivial
theorem c_l1Num (m : Int) (hm : 0 ≤ m ∧ m ≤ 2000000000) : Rolls Tryz.prog 108 151 [one (iC m)] (α := Int) (fun _ => True) (fun x => iR x) := by
 refine rolls_intro (N := 28) Tryz.func151 rfl rfl rfl rfl (fun H w g v0 bn δ0 hsrc => ?_)
 refine sq (rg (xs rfl rfl (nl (et (sq (sq (rg (xm rfl rfl (evl_roll (nm := 6) (cf rfl) (c_l1Once _) rfl rfl hsrc (rs_of rfl) (fun _ => rfl) (fun x1 δ1 r1 => ?_))))))))))
 refine rlk rfl rfl rfl (nl (et (ev_cond rfl (fun h2 => ?_) (fun h2 => ?_))))
 ·try have d2 := of_decide_eq_true h2
  refine sq (rg (xm rfl rfl (xm rfl rfl (xa rfl rfl rfl om rfl (xm rfl rfl (evl_roll (nm := 11) (cf rfl) c_l1Odd rfl rfl hsrc (rs_of rfl) (fun _ => rfl) (fun yo δ3 r3 => ?_)))))))
  refine rlk rfl rfl rfl (evl_e (e_lit ttOk rfl rfl rfl) (xm rfl rfl (evl_roll (nm := 14) (cf rfl) (c_l1Below _) rfl rfl hsrc (rs_of rfl) (fun _ => rfl) (fun yi δ4 r4 => ?_))))
  refine rlk rfl rfl rfl ?_
  obtain ⟨r4a, r4b⟩ := r4
  refine xo (q_ix_rt (m := yi.toNat) ttOk rfl rfl rfl rfl rfl om (by show _ < 4; omega)) rfl (xo (q_load_pr ttOk rfl rfl rfl rfl (get_map (f := fun x => [iC x]) (L := ([-1, m, m + 1, yo] : List Int)) (show yi.toNat < 4 by omega)) rfl rfl) rfl (xs rfl rfl (nl (et (ev_ret (evr_then (ret_roll (([-1, m, m + 1, yo] : List Int)[yi.toNat]'(show yi.toNat < 4 by omega)) δ4 ttOk rfl rfl rfl rfl ?_ ?_)))))))
  ·simp [RpLe, L2, RcLe]
  ·trivial
 ·try have d2 := of_decide_eq_false h2
  refine ev_skip (et (sq (sq (rg (xm rfl rfl (evl_roll (nm := 18) (cf rfl) (c_l1Once _) rfl rfl hsrc (rs_of rfl) (fun _ => rfl) (fun x5 δ5 r5 => ?_)))))))
  refine rlk rfl rfl rfl (nl (et (ev_cond rfl (fun h6 => ?_) (fun h6 => ?_))))
  ·try have d6 := of_decide_eq_true h6
   refine sq (rg (xm rfl rfl (xm rfl rfl (evl_call (nm := 21) (cf rfl) (c_l1Min _ _) (rs_of rfl) rfl rfl rfl (xa rfl rfl rfl om rfl (evl_roll (nm := 23) (cf rfl) (c_l1Below _) rfl rfl hsrc (rs_of rfl) (fun _ => rfl) (fun x7 δ7 r7 => ?_)))))))
   refine rlk rfl rfl rfl ?_
   obtain ⟨r7a, r7b⟩ := r7
   refine xs rfl rfl (nl (et (ev_ret (evr_then (ret_roll x7 δ7 ttOk rfl rfl rfl rfl ?_ ?_)))))
   ·simp [RpLe, L2, RcLe]
   ·trivial
  ·try have d6 := of_decide_eq_false h6
   refine ev_skip (et (sq (rg (xm rfl rfl (xm rfl rfl (xa rfl rfl rfl om rfl (evl_roll (nm := 27) (cf rfl) (c_l1Below _) rfl rfl hsrc (rs_of rfl) (fun _ => rfl) (fun x8 δ8 r8 => ?_))))))))
   refine rlk rfl rfl rfl ?_
   obtain ⟨r8a, r8b⟩ := r8
   refine xs rfl rfl (nl (et (ev_ret (ret_roll x8 δ8 ttOk rfl rfl rfl rfl ?_ ?_))))
   ·simp [RpLe, L2, RcLe]
   ·trivial
theorem c_l1DrawRow  : Rolls Tryz.prog 108 140 [] (α := List Int) (fun F => F.length ≤ 8) (fun F => [one' (intsR 2 F)]) := by
 refine rolls_intro (N := 18) Tryz.func140 rfl rfl rfl rfl (fun H w g v0 bn δ0 hsrc => ?_)
 refine sq (rg (xs rfl rfl (nl (et (sq (rg (evl_e (e_lit ttOk rfl rfl rfl) (xs rfl rfl (nl (et (sq (sq (rg (xm rfl rfl (evl_roll (nm := 7) (cf rfl) (c_l1Below _) rfl rfl hsrc (rs_of rfl) (fun _ => rfl) (fun x1 δ1 r1 => ?_))))))))))))))))
 refine rlk rfl rfl rfl ?_
 obtain ⟨r1a, r1b⟩ := r1
 obtain ⟨m, rfl⟩ := Int.eq_ofNat_of_zero_le r1a
 have hm := r1b om
 refine xs rfl rfl (nl (et (ev_blk (ev_loop (fun i : Nat × Int × List Int × DS bn => (⟨[(0, pbV 0 0), (4, iV i.2.1), (3, .p false [.rt 101])], [(0, 108, diceA v0 i.2.2.2)], [(101, 2, 1, (i.2.2.1.map fun x => [iC x]))], []⟩ : St)) (fun i => i.2.1 = (m : Int) - i.1 ∧ i.1 ≤ m ∧ i.2.2.1.length = i.1) (fun i => m - i.1) (0, m, [], δ1) [(101, 5)] (⟨by simp, by simp, rfl⟩) ⟨trf, trf, ⟨⟨_, rfl, by rfl⟩, trivial⟩, tre, rfl⟩ ?_))))
 intro i hp
 obtain ⟨k, z, F, δ⟩ := i
 have hp : z = (m : Int) - k ∧ k ≤ m ∧ F.length = k := hp
 obtain ⟨p0, p1, p2⟩ := hp
 show Ev _ _ _ _ (⟨[(0, pbV 0 0), (4, iV z), (3, .p false [.rt 101])], [(0, 108, diceA v0 δ)], [(101, 2, 1, (F.map fun x => [iC x]))], []⟩ : St)
 refine sq (sq (rg (xm rfl rfl (xb ttOk rfl rfl (nl (et (ev_cond rfl (fun h2 => ?_) (fun h2 => ?_))))))))
 ·try have d2 := of_decide_eq_true h2
  refine ev_skip (et (sq (ev_blk (rg (xm rfl rfl (xm rfl rfl (evl_roll (nm := 14) (cf rfl) (c_l1Below _) rfl rfl hsrc (rs_of rfl) (fun _ => rfl) (fun x3 δ3 r3 => ?_))))))))
  refine rlk rfl rfl rfl ?_
  obtain ⟨r3a, r3b⟩ := r3
  refine evl_e (e_lit ttOk rfl rfl rfl) (evl_e (e_app ttOk rfl rfl rfl rfl rfl rfl rfl (by simp; omega) rfl rfl) (xs rfl rfl (nl (eb (et (rg (xm rfl rfl (xa rfl rfl rfl om rfl (xs rfl rfl (nl (eve_round (k + 1, z - 1, F ++ [x3], δ3) [(101, 16)] ?hp ⟨trf, trf, ⟨⟨_, rfl, by simp⟩, trivial⟩, tre, rfl⟩)))))))))))
  case hp => exact ⟨⟨by dsimp only; omega, by omega, by simp [p2]⟩, by omega⟩
 ·try have d2 := of_decide_eq_false h2
  refine ev_exit (evx_then (evx_then (evx_hit (et (sq (rg (xm rfl rfl (xs rfl rfl (nl (et (ev_ret (ret_roll F δ ttOk rfl rfl rfl rfl ?_ ?_))))))))))))
  ·simp [RpLe, L2, RcLe]
  ·omega
theorem c_l1DrawAny  : Rolls Tryz.prog 108 142 [] (α := List Int) (fun F => F.length ≤ 49) (fun F => [one' (intsR 2 F)]) := by
 refine rolls_intro (N := 31) Tryz.func142 rfl rfl rfl rfl (fun H w g v0 bn δ0 hsrc => ?_)
 refine sq (rg (xs rfl rfl (nl (et (sq (rg (xm rfl rfl (evl_roll (nm := 5) (cf rfl) c_l1DrawRow rfl rfl hsrc (rs_of rfl) (fun _ => rfl) (fun x1 δ1 r1 => ?_)))))))))
 refine rlk rfl rfl rfl ?_
 have r1l := r1
 refine xs rfl rfl (nl (et (sq (sq (rg (xm rfl rfl (evl_roll (nm := 7) (cf rfl) (c_l1Once _) rfl rfl hsrc (rs_of rfl) (fun _ => rfl) (fun x2 δ2 r2 => ?_))))))))
 refine rlk rfl rfl rfl (nl (et (ev_cond rfl (fun h3 => ?_) (fun h3 => ?_))))
 ·try have d3 := of_decide_eq_true h3
  refine sq (rg (xm rfl rfl (evl_roll (nm := 9) (cf rfl) (c_l1Below _) rfl rfl hsrc (rs_of rfl) (fun _ => rfl) (fun x4 δ4 r4 => ?_))))
  refine rlk rfl rfl rfl ?_
  obtain ⟨r4a, r4b⟩ := r4
  refine nl (et (ev_blk (sq (rg (xb ttOk rfl rfl (xs rfl rfl (nl (et (ev_cond rfl (fun h5 => ?_) (fun h5 => ?_))))))))))
  ·try have d5 := of_decide_eq_true h5
   refine rg (xm rfl rfl (xm rfl rfl (evl_roll (nm := 14) (cf rfl) (c_l1Num _ om) rfl rfl hsrc (rs_of rfl) (fun _ => rfl) (fun x6 δ6 r6 => ?_))))
   refine rlk rfl rfl rfl (evl_e (e_lit ttOk rfl rfl rfl) (evl_e (e_app ttOk rfl rfl rfl rfl rfl rfl rfl (by simp; omega) rfl rfl) (xs rfl rfl (nl (eb (et (sq (rg (xm rfl rfl (xs rfl rfl (nl (et (ev_ret (ret_roll (x1 ++ [x6]) δ6 ttOk rfl rfl rfl rfl ?_ ?_))))))))))))))
   ·simp [RpLe, L2, RcLe]
   ·first | omega | (simp; omega)
  ·try have d5 := of_decide_eq_false h5
   refine sq (rg (xb ttOk rfl rfl (xs rfl rfl (nl (et (ev_cond rfl (fun h7 => ?_) (fun h7 => ?_)))))))
   ·try have d7 := of_decide_eq_true h7
    refine rg (xm rfl rfl (evl_roll (nm := 20) (cf rfl) (c_l1From _ _ om) rfl rfl hsrc (rs_of rfl) (fun _ => rfl) (fun yf δ8 r8 => ?_)))
    refine rlk rfl rfl rfl ?_
    obtain ⟨r8a, r8b⟩ := r8
    refine xa rfl rfl rfl om rfl (evl_e (e_make (m := (48 + yf).toNat) ttOk rfl rfl rfl rfl rfl om om om rfl rfl) (xs rfl rfl (nl (eb (et (sq (rg (xm rfl rfl (xs rfl rfl (nl (et (ev_ret (ret_roll (List.replicate (48 + yf).toNat 0) δ8 ttOk rfl rfl rfl rfl ?_ ?_)))))))))))))
    ·simp [RpLe, L2, RcLe]
    ·first | omega | (simp; omega)
   ·try have d7 := of_decide_eq_false h7
    refine sq (rg (xb ttOk rfl rfl (xs rfl rfl (nl (et (ev_cond rfl (fun h9 => ?_) (fun h9 => ?_)))))))
    ·try have d9 := of_decide_eq_true h9
     refine rg (xm rfl rfl (xm rfl rfl (evl_roll (nm := 27) (cf rfl) c_l1Odd rfl rfl hsrc (rs_of rfl) (fun _ => rfl) (fun x10 δ10 r10 => ?_))))
     refine rlk rfl rfl rfl (evl_e (e_lit ttOk rfl rfl rfl) (evl_e (e_app ttOk rfl rfl rfl rfl rfl rfl rfl (by simp; omega) rfl rfl) (xs rfl rfl (nl (eb (et (sq (rg (xm rfl rfl (xs rfl rfl (nl (et (ev_ret (ret_roll (x1 ++ [x10]) δ10 ttOk rfl rfl rfl rfl ?_ ?_))))))))))))))
     ·simp [RpLe, L2, RcLe]
     ·first | omega | (simp; omega)
    ·try have d9 := of_decide_eq_false h9
     refine ev_skip (eb (et (sq (rg (xm rfl rfl (xs rfl rfl (nl (et (ev_ret (ret_roll x1 δ4 ttOk rfl rfl rfl rfl ?_ ?_))))))))))
     ·simp [RpLe, L2, RcLe]
     ·first | omega | (simp; omega)
 ·try have d3 := of_decide_eq_false h3
  refine ev_skip (et (sq (rg (xm rfl rfl (xs rfl rfl (nl (et (ev_ret (ret_roll x1 δ2 ttOk rfl rfl rfl rfl ?_ ?_)))))))))
  ·simp [RpLe, L2, RcLe]
  ·first | omega | (simp; omega)
theorem get_len {F : List Int} (h : 0 < F.length) : (F.map fun x => [iC x])[0]? = some [iC (F[0]'h)] := get_map h
theorem c_l3DrawFates  : Rolls Tryz.prog 108 111 [] (α := List Int) (fun F => F.length ≤ 9) (fun F => [one' (intsR 2 F)]) := by
 refine rolls_intro (N := 29) Tryz.func111 rfl rfl rfl rfl (fun H w g v0 bn δ0 hsrc => ?_)
 refine sq (rg (xs rfl rfl (nl (et (sq (rg (evl_e (e_lit ttOk rfl rfl rfl) (xs rfl rfl (nl (et (sq (sq (rg (xm rfl rfl (evl_roll (nm := 7) (cf rfl) (c_l1Below _) rfl rfl hsrc (rs_of rfl) (fun _ => rfl) (fun x1 δ1 r1 => ?_))))))))))))))))
 refine rlk rfl rfl rfl ?_
 obtain ⟨r1a, r1b⟩ := r1
 obtain ⟨m, rfl⟩ := Int.eq_ofNat_of_zero_le r1a
 have hm := r1b om
 refine xs rfl rfl (nl (et (ev_blk (ev_loop (fun i : Nat × Int × List Int × DS bn => (⟨[(0, pbV 0 0), (4, iV i.2.1), (3, .p false [.rt 101])], [(0, 108, diceA v0 i.2.2.2)], [(101, 2, 1, (i.2.2.1.map fun x => [iC x]))], []⟩ : St)) (fun i => i.2.1 = (m : Int) - i.1 ∧ i.1 ≤ m ∧ i.2.2.1.length = i.1) (fun i => m - i.1) (0, m, [], δ1) [(101, 5)] (⟨by simp, by simp, rfl⟩) ⟨trf, trf, ⟨⟨_, rfl, by rfl⟩, trivial⟩, tre, rfl⟩ ?_))))
 intro i hp
 obtain ⟨k, z, F, δ⟩ := i
 have hp : z = (m : Int) - k ∧ k ≤ m ∧ F.length = k := hp
 obtain ⟨p0, p1, p2⟩ := hp
 show Ev _ _ _ _ (⟨[(0, pbV 0 0), (4, iV z), (3, .p false [.rt 101])], [(0, 108, diceA v0 δ)], [(101, 2, 1, (F.map fun x => [iC x]))], []⟩ : St)
 refine sq (sq (rg (xm rfl rfl (xb ttOk rfl rfl (nl (et (ev_cond rfl (fun h2 => ?_) (fun h2 => ?_))))))))
 ·try have d2 := of_decide_eq_true h2
  refine ev_skip (et (sq (ev_blk (rg (xm rfl rfl (xm rfl rfl (evl_roll (nm := 14) (cf rfl) (c_l1Below _) rfl rfl hsrc (rs_of rfl) (fun _ => rfl) (fun x3 δ3 r3 => ?_))))))))
  refine rlk rfl rfl rfl ?_
  obtain ⟨r3a, r3b⟩ := r3
  refine evl_e (e_lit ttOk rfl rfl rfl) (evl_e (e_app ttOk rfl rfl rfl rfl rfl rfl rfl (by simp; omega) rfl rfl) (xs rfl rfl (nl (eb (et (rg (xm rfl rfl (xa rfl rfl rfl om rfl (xs rfl rfl (nl (eve_round (k + 1, z - 1, F ++ [x3], δ3) [(101, 16)] ?hp ⟨trf, trf, ⟨⟨_, rfl, by simp⟩, trivial⟩, tre, rfl⟩)))))))))))
  case hp => exact ⟨⟨by dsimp only; omega, by omega, by simp [p2]⟩, by omega⟩
 ·try have d2 := of_decide_eq_false h2
  refine ev_exit (evx_then (evx_then (evx_hit (et (sq (sq (rg (xm rfl rfl (evl_roll (nm := 18) (cf rfl) (c_l1Once _) rfl rfl hsrc (rs_of rfl) (fun _ => rfl) (fun x4 δ4 r4 => ?_))))))))))
  refine rlk rfl rfl rfl (xm rfl rfl (evl_part rfl rfl (fun h5 => ?_) (fun h5 => ?_)))
  ·try have d5 := of_decide_eq_true h5
   refine gm h5 rfl rfl rfl rfl (go h5 rfl rfl (q_len_rtm ttOk rfl rfl rfl) rfl (go h5 rfl rfl (q_bin ttOk rfl) rfl (xo (q_pick_t rfl h5 rfl) rfl (nl (et (ev_cond rfl (fun h6 => ?_) (fun h6 => ?_)))))))
   ·try have d6 := of_decide_eq_true h6
    refine rg (xm rfl rfl (xm rfl rfl (evl_roll (nm := 26) (cf rfl) c_l1Odd rfl rfl hsrc (rs_of rfl) (fun _ => rfl) (fun x7 δ7 r7 => ?_))))
    refine rlk rfl rfl rfl (xo (q_ix_rt (m := 0) ttOk rfl rfl rfl rfl rfl rfl (by simp; omega)) rfl (evl_e (e_st_pr ttOk rfl rfl rfl rfl rfl rfl rfl (get_len om) rfl rfl rfl rfl rfl) (nl (et (sq (rg (xm rfl rfl (xs rfl rfl (nl (et (ev_ret (ret_roll (F.set 0 x7) δ7 ttOk rfl rfl rfl rfl ?_ ?_))))))))))))
    ·simp [RpLe, L2, RcLe, List.map_set]
    ·first | omega | (simp; omega)
   ·try have d6 := of_decide_eq_false h6
    refine ev_skip (et (sq (rg (xm rfl rfl (xs rfl rfl (nl (et (ev_ret (ret_roll F δ4 ttOk rfl rfl rfl rfl ?_ ?_)))))))))
    ·simp [RpLe, L2, RcLe]
    ·first | omega | (simp; omega)
  ·try have d5 := of_decide_eq_false h5
   refine gn h5 rfl rfl rfl (gn h5 rfl rfl rfl (gn h5 rfl rfl rfl (xo (q_pick_f rfl h5 rfl) rfl (nl (et (ev_cond_kf rfl rfl (ev_skip (et (sq (rg (xm rfl rfl (xs rfl rfl (nl (et (ev_ret (ret_roll F δ4 ttOk rfl rfl rfl rfl ?_ ?_))))))))))))))))
   ·simp [RpLe, L2, RcLe]
   ·first | omega | (simp; omega)
theorem c_l6DrawTime  : Rolls Tryz.prog 108 147 [] (α := Int) (fun _ => True) (fun x => iR x) := by
 refine rolls_intro (N := 12) Tryz.func147 rfl rfl rfl rfl (fun H w g v0 bn δ0 hsrc => ?_)
 refine sq (rg (xs rfl rfl (nl (et (sq (sq (rg (xm rfl rfl (evl_roll (nm := 4) (cf rfl) (c_l1Once _) rfl rfl hsrc (rs_of rfl) (fun _ => rfl) (fun x1 δ1 r1 => ?_))))))))))
 refine rlk rfl rfl rfl (nl (et (ev_cond rfl (fun h2 => ?_) (fun h2 => ?_))))
 ·try have d2 := of_decide_eq_true h2
  refine sq (rg (evl_e (e_lit ttOk rfl rfl rfl) (xm rfl rfl (evl_roll (nm := 7) (cf rfl) (c_l1Below _) rfl rfl hsrc (rs_of rfl) (fun _ => rfl) (fun yi δ3 r3 => ?_)))))
  refine rlk rfl rfl rfl ?_
  obtain ⟨r3a, r3b⟩ := r3
  refine xo (q_ix_rt (m := yi.toNat) ttOk rfl rfl rfl rfl rfl om (by show _ < 3; omega)) rfl (xo (q_load_pr ttOk rfl rfl rfl rfl (get_map (f := fun x => [iC x]) (L := ([0, 1000000, 999999] : List Int)) (show yi.toNat < 3 by omega)) rfl rfl) rfl (xs rfl rfl (nl (et (ev_ret (evr_then (ret_roll (([0, 1000000, 999999] : List Int)[yi.toNat]'(show yi.toNat < 3 by omega)) δ3 ttOk rfl rfl rfl rfl ?_ ?_)))))))
  ·simp [RpLe, L2, RcLe]
  ·trivial
 ·try have d2 := of_decide_eq_false h2
  refine ev_skip (et (sq (rg (xm rfl rfl (evl_roll (nm := 11) (cf rfl) (c_l1Below _) rfl rfl hsrc (rs_of rfl) (fun _ => rfl) (fun x4 δ4 r4 => ?_))))))
  refine rlk rfl rfl rfl ?_
  obtain ⟨r4a, r4b⟩ := r4
  refine xs rfl rfl (nl (et (ev_ret (ret_roll x4 δ4 ttOk rfl rfl rfl rfl ?_ ?_))))
  ·simp [RpLe, L2, RcLe]
  ·trivial
theorem c_l7DrawOp  : Rolls Tryz.prog 108 148 [] (α := Ask) (fun _ => True) (fun o => [many' (opR5 o)]) := by
 refine rolls_intro (N := 48) Tryz.func148 rfl rfl rfl rfl (fun H w g v0 bn δ0 hsrc => ?_)
 refine sq (rg (evl_e (e_alloc ttOk rfl rfl rfl rfl) (nl (et (sq (rg (xm rfl rfl (evl_roll (nm := 5) (cf rfl) (c_l1Below _) rfl rfl hsrc (rs_of rfl) (fun _ => rfl) (fun x1 δ1 r1 => ?_)))))))))
 refine rlk rfl rfl rfl ?_
 obtain ⟨r1a, r1b⟩ := r1
 refine xa rfl rfl rfl om rfl (xm rfl rfl (evl_roll (nm := 8) (cf rfl) (c_l1Below _) rfl rfl hsrc (rs_of rfl) (fun _ => rfl) (fun x2 δ2 r2 => ?_)))
 refine rlk rfl rfl rfl ?_
 obtain ⟨r2a, r2b⟩ := r2
 refine xo (q_build ttOk rfl) rfl (evl_e (e_alloc ttOk rfl rfl rfl rfl) (xst ttOk rfl rfl (nl (et (sq (sq (rg (xf ttOk rfl rfl (xl ttOk rfl rfl (nl (et (ev_blk (sq (rg (xb ttOk rfl rfl (xs rfl rfl (nl (et (ev_cond rfl (fun h3 => ?_) (fun h3 => ?_))))))))))))))))))))
 ·try have d3 := of_decide_eq_true h3
  refine rg (xm rfl rfl (evl_roll (nm := 15) (cf rfl) (c_l1Below _) rfl rfl hsrc (rs_of rfl) (fun _ => rfl) (fun x4 δ4 r4 => ?_)))
  refine rlk rfl rfl rfl ?_
  obtain ⟨r4a, r4b⟩ := r4
  refine xf ttOk rfl rfl (xst ttOk rfl rfl (nl (eb (et (sq (rg (xl ttOk rfl rfl (xst ttOk rfl rfl (nl (et (ev_ret (ret_roll ⟨0, 0, (1 + x1), x2, x4, 0, 0⟩ δ4 ttOk rfl rfl rfl rfl ?_ ?_))))))))))))
  ·simp [RpLe, L2, RcLe]
  ·trivial
 ·try have d3 := of_decide_eq_false h3
  refine sq (rg (xb ttOk rfl rfl (xs rfl rfl (nl (et (ev_cond rfl (fun h5 => ?_) (fun h5 => ?_)))))))
  ·try have d5 := of_decide_eq_true h5
   refine sq (rg (xm rfl rfl (evl_roll (nm := 20) (cf rfl) (c_l1Below _) rfl rfl hsrc (rs_of rfl) (fun _ => rfl) (fun x6 δ6 r6 => ?_))))
   refine rlk rfl rfl rfl ?_
   obtain ⟨r6a, r6b⟩ := r6
   refine xa rfl rfl rfl om rfl (xf ttOk rfl rfl (xst ttOk rfl rfl (nl (et (sq (rg (xm rfl rfl (evl_roll (nm := 24) (cf rfl) (c_l1Below _) rfl rfl hsrc (rs_of rfl) (fun _ => rfl) (fun x7 δ7 r7 => ?_)))))))))
   refine rlk rfl rfl rfl ?_
   obtain ⟨r7a, r7b⟩ := r7
   refine xf ttOk rfl rfl (xst ttOk rfl rfl (nl (et (sq (rg (xm rfl rfl (evl_roll (nm := 27) (cf rfl) (c_l1Below _) rfl rfl hsrc (rs_of rfl) (fun _ => rfl) (fun x8 δ8 r8 => ?_))))))))
   refine rlk rfl rfl rfl ?_
   obtain ⟨r8a, r8b⟩ := r8
   refine xf ttOk rfl rfl (xst ttOk rfl rfl (nl (et (rg (xm rfl rfl (evl_roll (nm := 30) (cf rfl) (c_l1Below _) rfl rfl hsrc (rs_of rfl) (fun _ => rfl) (fun x9 δ9 r9 => ?_)))))))
   refine rlk rfl rfl rfl ?_
   obtain ⟨r9a, r9b⟩ := r9
   refine xf ttOk rfl rfl (xst ttOk rfl rfl (nl (eb (et (sq (rg (xl ttOk rfl rfl (xst ttOk rfl rfl (nl (et (ev_ret (ret_roll ⟨0, 0, (1 + x1), (1 + x6), x7, x8, x9⟩ δ9 ttOk rfl rfl rfl rfl ?_ ?_))))))))))))
   ·simp [RpLe, L2, RcLe]
   ·trivial
  ·try have d5 := of_decide_eq_false h5
   refine sq (rg (xb ttOk rfl rfl (xs rfl rfl (nl (et (ev_cond rfl (fun h10 => ?_) (fun h10 => ?_)))))))
   ·try have d10 := of_decide_eq_true h10
    refine sq (rg (xm rfl rfl (evl_roll (nm := 35) (cf rfl) (c_l1Below _) rfl rfl hsrc (rs_of rfl) (fun _ => rfl) (fun x11 δ11 r11 => ?_))))
    refine rlk rfl rfl rfl ?_
    obtain ⟨r11a, r11b⟩ := r11
    refine xa rfl rfl rfl om rfl (xf ttOk rfl rfl (xst ttOk rfl rfl (nl (et (rg (xm rfl rfl (evl_roll (nm := 39) (cf rfl) (c_l1Below _) rfl rfl hsrc (rs_of rfl) (fun _ => rfl) (fun x12 δ12 r12 => ?_))))))))
    refine rlk rfl rfl rfl ?_
    obtain ⟨r12a, r12b⟩ := r12
    refine xf ttOk rfl rfl (xst ttOk rfl rfl (nl (eb (et (sq (rg (xl ttOk rfl rfl (xst ttOk rfl rfl (nl (et (ev_ret (ret_roll ⟨0, 0, (1 + x1), (1 + x11), x12, 0, 0⟩ δ12 ttOk rfl rfl rfl rfl ?_ ?_))))))))))))
    ·simp [RpLe, L2, RcLe]
    ·trivial
   ·try have d10 := of_decide_eq_false h10
    refine sq (rg (xb ttOk rfl rfl (xs rfl rfl (nl (et (ev_cond rfl (fun h13 => ?_) (fun h13 => ?_)))))))
    ·try have d13 := of_decide_eq_true h13
     refine rg (xm rfl rfl (evl_roll (nm := 44) (cf rfl) (c_l1Below _) rfl rfl hsrc (rs_of rfl) (fun _ => rfl) (fun x14 δ14 r14 => ?_)))
     refine rlk rfl rfl rfl ?_
     obtain ⟨r14a, r14b⟩ := r14
     refine xa rfl rfl rfl om rfl (xf ttOk rfl rfl (xst ttOk rfl rfl (nl (eb (et (sq (rg (xl ttOk rfl rfl (xst ttOk rfl rfl (nl (et (ev_ret (ret_roll ⟨0, 0, (1 + x1), (1 + x14), 0, 0, 0⟩ δ14 ttOk rfl rfl rfl rfl ?_ ?_)))))))))))))
     ·simp [RpLe, L2, RcLe]
     ·trivial
    ·try have d13 := of_decide_eq_false h13
     refine ev_skip (eb (et (sq (rg (xl ttOk rfl rfl (xst ttOk rfl rfl (nl (et (ev_ret (ret_roll ⟨0, 0, (1 + x1), x2, 0, 0, 0⟩ δ2 ttOk rfl rfl rfl rfl ?_ ?_))))))))))
     ·simp [RpLe, L2, RcLe]
     ·trivial
theorem c_l7Draw  : Rolls Tryz.prog 108 132 [] (α := Entry) (fun e => 2 ≤ e.client ∧ e.client ≤ 5) (fun e => [many' (entryR e)]) := by
 refine rolls_intro (N := 17) Tryz.func132 rfl rfl rfl rfl (fun H w g v0 bn δ0 hsrc => ?_)
 refine sq (rg (evl_e (e_alloc ttOk rfl rfl rfl rfl) (nl (et (sq (rg (xm rfl rfl (evl_roll (nm := 4) (cf rfl) (c_l1Below _) rfl rfl hsrc (rs_of rfl) (fun _ => rfl) (fun x1 δ1 r1 => ?_)))))))))
 refine rlk rfl rfl rfl ?_
 obtain ⟨r1a, r1b⟩ := r1
 refine xa rfl rfl rfl om rfl (xm rfl rfl (evl_roll (nm := 7) (cf rfl) c_l6DrawTime rfl rfl hsrc (rs_of rfl) (fun _ => rfl) (fun x2 δ2 r2 => ?_)))
 refine rlk rfl rfl rfl (xm rfl rfl (evl_roll (nm := 9) (cf rfl) (c_l1Below _) rfl rfl hsrc (rs_of rfl) (fun _ => rfl) (fun x3 δ3 r3 => ?_)))
 refine rlk rfl rfl rfl ?_
 obtain ⟨r3a, r3b⟩ := r3
 refine xa rfl rfl rfl om rfl (xm rfl rfl (evl_roll (nm := 12) (cf rfl) (c_l1Below _) rfl rfl hsrc (rs_of rfl) (fun _ => rfl) (fun x4 δ4 r4 => ?_)))
 refine rlk rfl rfl rfl ?_
 obtain ⟨r4a, r4b⟩ := r4
 refine xa rfl rfl rfl om rfl (xm rfl rfl (evl_roll (nm := 15) (cf rfl) c_l7DrawOp rfl rfl hsrc (rs_of rfl) (fun _ => rfl) (fun x5 δ5 r5 => ?_)))
 refine rlk rfl rfl rfl (xo (q_build ttOk rfl) rfl (xst ttOk rfl rfl (nl (et (ev_ret (ret_roll ⟨1 + x1, x2, 2 + x3, 1 + x4, x5.kind, x5.a, x5.b, x5.c, x5.d⟩ δ5 ttOk rfl rfl rfl rfl ?_ ?_))))))
 ·simp [RpLe, L2, RcLe]
 ·exact ⟨by show 2 ≤ 2 + x3; omega, by show 2 + x3 ≤ 5; omega⟩
end Go.Proofs.YtahkjonokeifmaaGreat.Cur
