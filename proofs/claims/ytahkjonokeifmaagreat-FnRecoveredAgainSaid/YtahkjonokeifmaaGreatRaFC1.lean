/- Walks of functions of the program, printed by a program of the prover. -/
import Derived.Test.YtahkjonokeifmaaGreatRaF89
import Derived.Test.YtahkjonokeifmaaGreatRaVDK
import Derived.Test.YtahkjonokeifmaaGreatRaF91
namespace Go.Proofs.YtahkjonokeifmaaGreat.Cur
open Go.ChangeShapes Go.WideShapes Go.ChangeAt Go.RowKit
set_option linter.unusedVariables false
set_option linter.unusedSimpArgs false
set_option maxHeartbeats 1000000
set_option maxRecDepth 100000
attribute [local irreducible] EvL Ev EvE Quiet Eff Pure RDk RDb RDo
theorem c_l1New : MkCur Tryz.prog 108 43 := by
 refine mk_intro (N := 28) Tryz.func43 rfl rfl rfl (fun H w v0 l hr0 hl0 hn0 => ?_)
 refine sq (rg (xs rfl rfl (nl (et (sq (rg (xm rfl rfl (evl_src 5 rfl hr0 (xo (q_len_map ttOk rfl rfl) rfl (xa rfl rfl rfl om rfl (xs rfl rfl (nl (et (sq (sq (rg (xs rfl rfl (nl (et (ev_blk (ev_loop (fun i : Nat × Int => (⟨[(0, .p false [.c (.v v0)]), (3, iV i.2), (4, iV i.1)], [], [], []⟩ : St)) (fun i => i.1 ≤ l.length ∧ 0 ≤ i.2 ∧ i.2 ≤ 1073741823) (fun i => l.length - i.1) (0, 550007 + l.length) [] (⟨by simp, by omega, by omega⟩) lei ?_)))))))))))))))))))))
 intro i hp
 obtain ⟨k, h⟩ := i
 have hp : k ≤ l.length ∧ 0 ≤ h ∧ h ≤ 1073741823 := hp
 obtain ⟨p0, p1, p2⟩ := hp
 show Ev _ _ _ _ (⟨[(0, .p false [.c (.v v0)]), (3, iV h), (4, iV k)], [], [], []⟩ : St)
 refine sq (sq (rg (xm rfl rfl (xm rfl rfl (evl_src 9 rfl hr0 (xo (q_len_map ttOk rfl rfl) rfl (xb ttOk rfl rfl (nl (et (ev_cond rfl (fun h1 => ?_) (fun h1 => ?_)))))))))))
 ·try have d1 := of_decide_eq_true h1
  refine ev_skip (et (sq (ev_blk ?_)))
  have hy := and_in (h * 311 + IntKind.i64.wrap (l[k]'om) + 11) 1073741823 ⟨by omega, by omega⟩
  have hx := hl0 _ (List.getElem_mem (show k < l.length by omega))
  have hxw := IntWalk.i64_in (l[k]'om) om
  refine rg (xm rfl rfl (xa rfl rfl rfl om rfl (xm rfl rfl (xm rfl rfl (evl_src 16 rfl hr0 (xo (q_ix_map (m := k) ttOk rfl rfl rfl rfl om) rfl (xl ttOk rfl rfl (xo (q_cv (k := .u8) (k2 := .i64) kr kr rfl) rfl (xa rfl rfl rfl om rfl (xa rfl rfl rfl om rfl (xo (q_wand rfl rfl) rfl (xs rfl rfl (nl (eb (et (rg (xm rfl rfl (xa rfl rfl rfl om rfl (xs rfl rfl (nl (eve_round (k + 1, _) [] ?hp lei)))))))))))))))))))))
  case hp => exact ⟨⟨by omega, hy.1, hy.2⟩, by omega⟩
 ·try have d1 := of_decide_eq_false h1
  refine ev_exit (evx_then (evx_then (evx_hit (et (sq (rg (xm rfl rfl (xm rfl rfl (xo (q_build ttOk rfl) rfl (evl_e (e_box rfl rfl rfl rfl) (xs rfl rfl (nl (et (ev_ret ?_))))))))))))))
  exact ret_mk (nb := 27) ⟨0, h, by omega, by omega, by omega⟩ ttOk rfl rfl
theorem c_l1Byte  : Rolls Tryz.prog 108 112 [] (α := Int) (fun x => 0 ≤ x ∧ x ≤ 255) (fun x => iR x) := by
 refine rolls_intro (N := 58) Tryz.func112 rfl rfl rfl rfl (fun H w g v0 bn δ0 hsrc => ?_)
 obtain ⟨l, rfl, hr0, hl0, hn0⟩ := id hsrc
 obtain ⟨ok1, ok2, ok3⟩ := δ0.ok
 refine sq (rg (xs rfl rfl (nl (et (sq (rg (xm rfl rfl (xm rfl rfl (xo (q_nilc rfl) rfl (xf ttOk rfl rfl (xl ttOk rfl rfl (xo (q_wmul rfl rfl) rfl (xo (q_wadd rfl rfl) rfl (xo (q_nilc rfl) rfl (xf ttOk rfl rfl (xst ttOk rfl rfl (nl (et ?_))))))))))))))))))
 have hb := wrap_i64 (IntKind.i64.wrap (δ0.h * 6364136223846793005) + 1442695040888963407)
 obtain ⟨h9, e9⟩ : ∃ z, z = IntKind.i64.wrap (IntKind.i64.wrap (δ0.h * 6364136223846793005) + 1442695040888963407) := ⟨_, rfl⟩
 rw [← e9] at hb ⊢
 refine sq (ev_drawq [] mo (rk0 0 rfl (q_move rfl) rfl (rk0 1 rfl (q_nilc rfl) rfl (rk0 2 rfl (q_fieldAddr ttOk rfl) rfl (rk0 3 rfl (q_load ttOk rfl) rfl (rk0 4 rfl (q_wshr rfl rfl (by decide) (by decide)) rfl (rk0 5 rfl (q_move rfl) rfl (rk0 6 rfl (q_nilc rfl) rfl (rk0 7 rfl (q_fieldAddr ttOk rfl) rfl (rk0 8 rfl (q_load ttOk rfl) rfl (rk0 9 rfl (q_wshr rfl rfl (by decide) (by decide)) rfl (rk0 10 rfl (q_wxor rfl rfl) rfl (rk0 11 rfl (q_wand rfl rfl) rfl (rk0 12 rfl (q_assign rfl) rfl (rdk_endq kr (et ?_))))))))))))))))
 have hy := and_in (bits BinOp.xor IntKind.i64 (h9 / 2 ^ (33 : Int).toNat) (h9 / 2 ^ (45 : Int).toNat)) 255 ⟨by omega, by omega⟩
 obtain ⟨y, ey⟩ : ∃ z, z = bits BinOp.and IntKind.i64 (bits BinOp.xor IntKind.i64 (h9 / 2 ^ (33 : Int).toNat) (h9 / 2 ^ (45 : Int).toNat)) 255 := ⟨_, rfl⟩
 rw [← ey] at hy ⊢
 refine sq (sq (ev_drawq [] mo (rk0 0 rfl (q_move rfl) rfl (rk0 1 rfl (q_nilc rfl) rfl (rk0 2 rfl (q_fieldAddr ttOk rfl) rfl (rk0 3 rfl (q_load ttOk rfl) rfl (rk0 4 rfl (q_move rfl) rfl (rk0 5 rfl (q_nilc rfl) rfl (rk0 6 rfl (q_fieldAddr ttOk rfl) rfl (rk0 7 rfl (q_load_src ttOk rfl rfl rfl rfl rfl hr0) rfl (rk0 8 rfl (q_len_map ttOk rfl rfl) rfl (rk0 9 rfl (q_bin ttOk rfl) rfl (rdk_endq kr (et (ev_cond rfl (fun h1 => ?_) (fun h1 => ?_))))))))))))))))
 ·try have d1 := of_decide_eq_true h1
  have hx := hl0 _ (List.getElem_mem (show δ0.i < l.length by omega))
  have hxw := IntWalk.i64_in (l[δ0.i]'om) om
  refine sq (ev_drawq [] mo (rk0 0 rfl (q_move rfl) rfl (rk0 1 rfl (q_move rfl) rfl (rk0 2 rfl (q_nilc rfl) rfl (rk0 3 rfl (q_fieldAddr ttOk rfl) rfl (rk0 4 rfl (q_load_src ttOk rfl rfl rfl rfl rfl hr0) rfl (rk0 5 rfl (q_move rfl) rfl (rk0 6 rfl (q_nilc rfl) rfl (rk0 7 rfl (q_fieldAddr ttOk rfl) rfl (rk0 8 rfl (q_load ttOk rfl) rfl (rk0 9 rfl (q_ix_map (m := δ0.i) ttOk rfl rfl rfl rfl om) rfl (rk0 10 rfl (q_load ttOk rfl) rfl (rk0 11 rfl (q_cv (k := .u8) (k2 := .i64) kr kr rfl) rfl (rk0 12 rfl (q_ar rfl rfl rfl om) rfl (rk0 13 rfl (q_wand rfl rfl) rfl (rk0 14 rfl (q_assign rfl) rfl (rdk_endq kr (et (rg (xm rfl rfl (xm rfl rfl (xo (q_nilc rfl) rfl (xf ttOk rfl rfl (xl ttOk rfl rfl (xa rfl rfl rfl om rfl (xo (q_nilc rfl) rfl (xf ttOk rfl rfl (xst ttOk rfl rfl (nl (et (sq (rg (xm rfl rfl (xs rfl rfl (nl (et (ev_ret (ret_roll (bits BinOp.and IntKind.i64 (y + IntKind.i64.wrap l[δ0.i]) 255) ⟨δ0.i + 1, h9, by omega, hb.1, hb.2⟩ ttOk rfl rfl rfl rfl ?_ ?_))))))))))))))))))))))))))))))))))))))
  ·simp [RpLe, L2, RcLe]
  ·exact and_in _ 255 ⟨by omega, by omega⟩
 ·try have d1 := of_decide_eq_false h1
  refine ev_skip (et (sq (rg (xm rfl rfl (xs rfl rfl (nl (et (ev_ret (ret_roll (y) ⟨δ0.i, h9, by omega, hb.1, hb.2⟩ ttOk rfl rfl rfl rfl ?_ ?_)))))))))
  ·simp [RpLe, L2, RcLe]
  ·exact hy
theorem c_l1Below (m : Int) : Rolls Tryz.prog 108 72 [one (iC m)] (α := Int) (fun x => 0 ≤ x ∧ (0 < m → x < m)) (fun x => iR x) := by
 refine rolls_intro (N := 37) Tryz.func72 rfl rfl rfl rfl (fun H w g v0 bn δ0 hsrc => ?_)
 refine sq (rg (xs rfl rfl (nl (et (sq (sq (rg (xm rfl rfl (xb ttOk rfl rfl (nl (et (ev_cond rfl (fun h1 => ?_) (fun h1 => ?_)))))))))))))
 ·try have d1 := of_decide_eq_true h1
  refine sq (rg (xs rfl rfl (nl (et (ev_ret (evr_then (ret_roll 0 δ0 ttOk rfl rfl rfl rfl ?_ ?_)))))))
  ·simp [RpLe, L2, RcLe]
  ·exact ⟨by omega, fun h9 => by omega⟩
 ·try have d1 := of_decide_eq_false h1
  refine ev_skip (et (sq (sq (rg (xm rfl rfl (xb ttOk rfl rfl (nl (et (ev_cond rfl (fun h2 => ?_) (fun h2 => ?_))))))))))
  ·try have d2 := of_decide_eq_true h2
   refine sq (rg (xm rfl rfl (evl_roll (nm := 14) (cf rfl) c_l1Byte rfl rfl hsrc (rs_of rfl) (fun _ => rfl) (fun x3 δ3 r3 => ?_))))
   refine rlk rfl rfl rfl ?_
   obtain ⟨r3a, r3b⟩ := r3
   refine xm rfl rfl (xo (q_rem_pos rfl rfl om) rfl (xs rfl rfl (nl (et (ev_ret (evr_then (ret_roll (x3 % m) δ3 ttOk rfl rfl rfl rfl ?_ ?_)))))))
   ·simp [RpLe, L2, RcLe]
   ·exact ⟨Int.emod_nonneg _ om, fun h9 => Int.emod_lt_of_pos _ om⟩
  ·try have d2 := of_decide_eq_false h2
   refine ev_skip (et (sq (rg (xm rfl rfl (evl_roll (nm := 18) (cf rfl) c_l1Byte rfl rfl hsrc (rs_of rfl) (fun _ => rfl) (fun x4 δ4 r4 => ?_))))))
   refine rlk rfl rfl rfl ?_
   obtain ⟨r4a, r4b⟩ := r4
   refine xs rfl rfl (nl (et (sq (rg (xm rfl rfl (evl_roll (nm := 20) (cf rfl) c_l1Byte rfl rfl hsrc (rs_of rfl) (fun _ => rfl) (fun x5 δ5 r5 => ?_)))))))
   refine rlk rfl rfl rfl ?_
   obtain ⟨r5a, r5b⟩ := r5
   refine xs rfl rfl (nl (et (sq (rg (xm rfl rfl (evl_roll (nm := 22) (cf rfl) c_l1Byte rfl rfl hsrc (rs_of rfl) (fun _ => rfl) (fun x6 δ6 r6 => ?_)))))))
   refine rlk rfl rfl rfl ?_
   obtain ⟨r6a, r6b⟩ := r6
   refine xs rfl rfl (nl (et (sq (rg (xm rfl rfl (evl_roll (nm := 24) (cf rfl) c_l1Byte rfl rfl hsrc (rs_of rfl) (fun _ => rfl) (fun x7 δ7 r7 => ?_)))))))
   refine rlk rfl rfl rfl ?_
   obtain ⟨r7a, r7b⟩ := r7
   refine xs rfl rfl (nl (et (sq (rg (xm rfl rfl (xa rfl rfl rfl om rfl (xm rfl rfl (xa rfl rfl rfl om rfl (xa rfl rfl rfl om rfl (xm rfl rfl (xa rfl rfl rfl om rfl (xa rfl rfl rfl om rfl (xm rfl rfl (xa rfl rfl rfl om rfl (xm rfl rfl (xo (q_rem_pos rfl rfl om) rfl (xs rfl rfl (nl (et (ev_ret (ret_roll ((x4 * 16777216 + x5 * 65536 + x6 * 256 + x7) % m) δ7 ttOk rfl rfl rfl rfl ?_ ?_)))))))))))))))))))))
   ·simp [RpLe, L2, RcLe]
   ·exact ⟨Int.emod_nonneg _ om, fun h9 => Int.emod_lt_of_pos _ om⟩
theorem c_l1Once (m : Int) : Rolls Tryz.prog 108 102 [one (iC m)] (α := Bool) (fun _ => True) (fun x => [one' (RC.v (.bool x))]) := by
 refine rolls_intro (N := 9) Tryz.func102 rfl rfl rfl rfl (fun H w g v0 bn δ0 hsrc => ?_)
 refine sq (rg (xs rfl rfl (nl (et (sq (rg (xm rfl rfl (xm rfl rfl (evl_roll (nm := 7) (cf rfl) (c_l1Below _) rfl rfl hsrc (rs_of rfl) (fun _ => rfl) (fun x1 δ1 r1 => ?_))))))))))
 refine rlk rfl rfl rfl ?_
 obtain ⟨r1a, r1b⟩ := r1
 refine xb ttOk rfl rfl (xs rfl rfl (nl (et (ev_ret (ret_roll (decide (x1 = 0)) δ1 ttOk rfl rfl rfl rfl ?_ ?_)))))
 ·simp [RpLe, L2, RcLe]
 ·trivial
theorem c_l1From (a z : Int) (h1 : -100 ≤ a ∧ a ≤ z ∧ z ≤ 100) : Rolls Tryz.prog 108 143 [one (iC a), one (iC z)] (α := Int) (fun x => a ≤ x ∧ x ≤ z) (fun x => iR x) := by
 refine rolls_intro (N := 15) Tryz.func143 rfl rfl rfl rfl (fun H w g v0 bn δ0 hsrc => ?_)
 refine sq (rg (xs rfl rfl (nl (et (sq (rg (xm rfl rfl (xm rfl rfl (xm rfl rfl (xm rfl rfl (xa rfl rfl rfl om rfl (xa rfl rfl rfl om rfl (evl_roll (nm := 13) (cf rfl) (c_l1Below _) rfl rfl hsrc (rs_of rfl) (fun _ => rfl) (fun x1 δ1 r1 => ?_))))))))))))))
 refine rlk rfl rfl rfl ?_
 obtain ⟨r1a, r1b⟩ := r1
 refine xa rfl rfl rfl om rfl (xs rfl rfl (nl (et (ev_ret (ret_roll (a + x1) δ1 ttOk rfl rfl rfl rfl ?_ ?_)))))
 ·simp [RpLe, L2, RcLe]
 ·exact ⟨by omega, by omega⟩
end Go.Proofs.YtahkjonokeifmaaGreat.Cur
