/- Walks of functions of the program, printed by a program of the prover. -/
import Derived.Test.YtinmcdcmidlgpaaGreatDoorFuF50
import Derived.Test.YtinmcdcmidlgpaaGreatDoorFuVDC
import Derived.Test.YtinmcdcmidlgpaaGreatDoorFuF65
namespace Go.Proofs.YtinmcdcmidlgpaaGreatDoor
open Go.ChangeShapes Go.WideShapes Go.ChangeAt Go.RowKit
set_option linter.unusedVariables false
set_option linter.unusedSimpArgs false
set_option maxHeartbeats 1000000
set_option maxRecDepth 100000
attribute [local irreducible] EvL Ev EvE Quiet Eff Pure RDk RDb RDo
theorem c_big (l : List Int) : Pure Tryz.prog 23 [one (bytes l)] (bR (decide ((l.length : Int) > 4096))) := by
 refine pure_intro (N := 6) Tryz.func23 rfl rfl rfl rfl (fun H w => ?_)
 refine ev_lenm (t := 0) rfl (fun hL => ?_)
 refine sq (rg (xs rfl rfl (nl (et (sq (rg (xm rfl rfl (xo (q_len_map ttOk rfl rfl) rfl (xb ttOk rfl rfl (xs rfl rfl (nl (et (ev_ret (ret_pure' ttOk rfl rfl ?_))))))))))))))
 rfl
theorem c_below (m : Int) (hm : 1 ≤ m ∧ m ≤ 100000) : Rolls Tryz.prog 135 26 [one (iC m)] (α := Int) (fun x => 0 ≤ x ∧ x < m) (fun x => iR x) := by
 refine rolls_intro (N := 56) Tryz.func26 rfl rfl rfl rfl (fun H w g v0 bn δ0 hsrc => ?_)
 obtain ⟨l, rfl, hr0, hl0, hn0⟩ := id hsrc
 obtain ⟨ok1, ok2, ok3⟩ := δ0.ok
 refine sq (rg (xs rfl rfl (nl (et (sq (rg (xm rfl rfl (xm rfl rfl (xo (q_nilc rfl) rfl (xf ttOk rfl rfl (xl ttOk rfl rfl (xo (q_umul rfl rfl) rfl (xo (q_uadd rfl rfl) rfl (xo (q_nilc rfl) rfl (xf ttOk rfl rfl (xst ttOk rfl rfl (nl (et ?_))))))))))))))))))
 have hb := wrap_u64 (IntKind.u64.wrap (δ0.h * 6364136223846793005) + 1442695040888963407)
 obtain ⟨h9, e9⟩ : ∃ z, z = IntKind.u64.wrap (IntKind.u64.wrap (δ0.h * 6364136223846793005) + 1442695040888963407) := ⟨_, rfl⟩
 rw [← e9] at hb ⊢
 refine sq (rg (xm rfl rfl (xo (q_nilc rfl) rfl (xf ttOk rfl rfl (xl ttOk rfl rfl (xo (q_ushr rfl rfl) rfl (xo (q_uand rfl rfl) rfl (xo (q_cv (k := .u64) (k2 := .i64) kr kr rfl) rfl (xs rfl rfl (nl (et ?_)))))))))))
 have hy := and_bound (h9 / 8589934592) (Int.ediv_nonneg hb.1 om) om
 obtain ⟨y, ey⟩ : ∃ z, z = IntKind.i64.wrap (bits BinOp.and IntKind.u64 (h9 / 8589934592) 16777215) := ⟨_, rfl⟩
 rw [← ey] at hy ⊢
 refine sq (sq (ev_drawq [] mo (rk0 0 rfl (q_move rfl) rfl (rk0 1 rfl (q_nilc rfl) rfl (rk0 2 rfl (q_fieldAddr ttOk rfl) rfl (rk0 3 rfl (q_load ttOk rfl) rfl (rk0 4 rfl (q_move rfl) rfl (rk0 5 rfl (q_nilc rfl) rfl (rk0 6 rfl (q_fieldAddr ttOk rfl) rfl (rk0 7 rfl (q_load_src ttOk rfl rfl rfl rfl rfl hr0) rfl (rk0 8 rfl (q_len_map ttOk rfl rfl) rfl (rk0 9 rfl (q_bin ttOk rfl) rfl (rdk_endq kr (et (ev_cond rfl (fun h1 => ?_) (fun h1 => ?_))))))))))))))))
 ·try have d1 := of_decide_eq_true h1
  have hx := hl0 _ (List.getElem_mem (show δ0.i < l.length by omega))
  have hxw := IntWalk.i64_in (l[δ0.i]'om) om
  refine sq (ev_drawq [] mo (rk0 0 rfl (q_move rfl) rfl (rk0 1 rfl (q_move rfl) rfl (rk0 2 rfl (q_nilc rfl) rfl (rk0 3 rfl (q_fieldAddr ttOk rfl) rfl (rk0 4 rfl (q_load_src ttOk rfl rfl rfl rfl rfl hr0) rfl (rk0 5 rfl (q_move rfl) rfl (rk0 6 rfl (q_nilc rfl) rfl (rk0 7 rfl (q_fieldAddr ttOk rfl) rfl (rk0 8 rfl (q_load ttOk rfl) rfl (rk0 9 rfl (q_ix_map (m := δ0.i) ttOk rfl rfl rfl rfl om) rfl (rk0 10 rfl (q_load ttOk rfl) rfl (rk0 11 rfl (q_cv (k := .u8) (k2 := .i64) kr kr rfl) rfl (rk0 12 rfl (q_ar rfl rfl rfl om) rfl (rk0 13 rfl (q_assign rfl) rfl (rdk_endq kr (et (rg (xm rfl rfl (xm rfl rfl (xo (q_nilc rfl) rfl (xf ttOk rfl rfl (xl ttOk rfl rfl (xa rfl rfl rfl om rfl (xo (q_nilc rfl) rfl (xf ttOk rfl rfl (xst ttOk rfl rfl (nl (et (sq (rg (xm rfl rfl (xm rfl rfl (xo (q_rem_pos rfl rfl om) rfl (xs rfl rfl (nl (et (ev_ret (ret_roll ((y + IntKind.i64.wrap l[δ0.i]) % m) ⟨δ0.i + 1, h9, by omega, hb.1, hb.2⟩ ttOk rfl rfl rfl rfl ?_ ?_)))))))))))))))))))))))))))))))))))))))
  ·simp [RpLe, L2, RcLe]
  ·exact ⟨Int.emod_nonneg _ om, Int.emod_lt_of_pos _ om⟩
 ·try have d1 := of_decide_eq_false h1
  refine ev_skip (et (sq (rg (xm rfl rfl (xm rfl rfl (xo (q_rem_pos rfl rfl om) rfl (xs rfl rfl (nl (et (ev_ret (ret_roll (y % m) ⟨δ0.i, h9, by omega, hb.1, hb.2⟩ ttOk rfl rfl rfl rfl ?_ ?_)))))))))))
  ·simp [RpLe, L2, RcLe]
  ·exact ⟨Int.emod_nonneg _ om, Int.emod_lt_of_pos _ om⟩
theorem c_roll (sd : Int) : MkRoll Tryz.prog 135 24 sd := by
 refine mk_intro (N := 38) Tryz.func24 rfl rfl rfl (fun H w v0 l hr0 hl0 hn0 => ?_)
 refine sq (rg (xs rfl rfl (nl (et (sq (rg (xm rfl rfl (xm rfl rfl (xo (q_umul rfl rfl) rfl (xm rfl rfl (evl_src 10 rfl hr0 (xo (q_len_map ttOk rfl rfl) rfl (xo (q_cv (k := .i64) (k2 := .u64) kr kr rfl) rfl (xo (q_uadd rfl rfl) rfl (xo (q_build ttOk rfl) rfl (evl_e (e_box rfl rfl rfl rfl) (xs rfl rfl (nl (et (sq (sq (ev_src 0 rfl hr0 (rg (xs rfl rfl (nl (et (ev_blk (ev_loop (fun i : Nat × Int => (⟨[(0, .p false [.c (bytes l)]), (5, pbV 15 0), (6, iV i.1)], [(15, 135, [.c (.v v0), .c (iC 0), .c (.v (.int .u64 i.2))])], [], []⟩ : St)) (fun i => i.1 ≤ l.length ∧ 0 ≤ i.2 ∧ i.2 ≤ 18446744073709551615) (fun i => l.length - i.1) (0, IntKind.u64.wrap (IntKind.u64.wrap (sd * 7919) + IntKind.u64.wrap (l.length : Int))) [] (⟨by simp, (wrap_u64 _).1, (wrap_u64 _).2⟩) lei ?_))))))))))))))))))))))))))))
 intro i hp
 obtain ⟨k, h⟩ := i
 have hp : k ≤ l.length ∧ 0 ≤ h ∧ h ≤ 18446744073709551615 := hp
 obtain ⟨p0, p1, p2⟩ := hp
 show Ev _ _ _ _ (⟨[(0, .p false [.c (bytes l)]), (5, pbV 15 0), (6, iV k)], [(15, 135, [.c (.v v0), .c (iC 0), .c (.v (.int .u64 h))])], [], []⟩ : St)
 refine sq (sq (rg (xm rfl rfl (xm rfl rfl (xo (q_len_map ttOk rfl rfl) rfl (xb ttOk rfl rfl (nl (et (ev_cond rfl (fun h1 => ?_) (fun h1 => ?_))))))))))
 ·try have d1 := of_decide_eq_true h1
  refine ev_skip (et (sq (ev_blk (ev_drawq [15] mo (rk0 0 rfl (q_move rfl) rfl (rk0 1 rfl (q_move rfl) rfl (rk0 2 rfl (q_nilc rfl) rfl (rk0 3 rfl (q_fieldAddr ttOk rfl) rfl (rk0 4 rfl (q_load ttOk rfl) rfl (rk0 5 rfl (q_umul rfl rfl) rfl (rk0 6 rfl (q_move rfl) rfl (rk0 7 rfl (q_move rfl) rfl (rk0 8 rfl (q_ix_map (m := k) ttOk rfl rfl rfl rfl om) rfl (rk0 9 rfl (q_load ttOk rfl) rfl (rk0 10 rfl (q_cv (k := .u8) (k2 := .u64) kr kr rfl) rfl (rk0 11 rfl (q_uadd rfl rfl) rfl (rk0 12 rfl (q_uadd rfl rfl) rfl (rk0 13 rfl (q_nilc rfl) rfl (rk0 14 rfl (q_fieldAddr ttOk rfl) rfl (rdk_one 15 kr (rdo_brk rfl rfl trivial (e_store ttOk rfl) (rdb_endq kr (eb (et (rg (xm rfl rfl (xa rfl rfl rfl om rfl (xs rfl rfl (nl (eve_round (k + 1, _) [] ?hp lei))))))))))))))))))))))))))))))
  case hp => exact ⟨⟨by omega, (wrap_u64 _).1, (wrap_u64 _).2⟩, by omega⟩
 ·try have d1 := of_decide_eq_false h1
  refine ev_exit (evx_then (evx_then (evx_hit (et (sq (rg (xm rfl rfl (xs rfl rfl (nl (et (ev_ret ?_)))))))))))
  exact ret_mk (nb := 15) ⟨0, h, by omega, p1, p2⟩ ttOk rfl rfl
theorem find_seq {l : List Mark} (h : SOk l) (c : Int) : 0 ≤ (findM l c).seq ∧ (findM l c).seq ≤ 2000 ∧ 0 ≤ (findM l c).index ∧ (findM l c).index ≤ 2000 := by
 rcases find_noMark h c with ⟨_, e⟩ | ⟨m, _, _, hm, _, e⟩
 ·rw [e]; decide
 ·rw [e]
  simp only [markOk, seqOk, indexOk, inB, Bool.and_eq_true, decide_eq_true_eq] at hm
  omega
@[reducible] def opR5 (o : Ask) : List RC := [.v (.int .i64 o.kind), .v (.int .i64 o.a), .v (.int .i64 o.b), .v (.int .i64 o.c), .v (.int .i64 o.d)]
@[reducible] def askR (a : Ask) : List RC := [.v (.int .i64 a.client), .v (.int .i64 a.seq), .v (.int .i64 a.kind), .v (.int .i64 a.a), .v (.int .i64 a.b), .v (.int .i64 a.c), .v (.int .i64 a.d)]
theorem op_put {a b : Int} (ha : 0 ≤ a ∧ a < 10) (hb : 0 ≤ b ∧ b < 1000) : opOk 1 a b 0 0 = true := by
 simp only [opOk, inB]; simp; omega
theorem op_cut {a : Int} (ha : 0 ≤ a ∧ a < 10) : opOk 2 a 0 0 0 = true := by
 simp only [opOk, inB]; simp; omega
theorem op_job {a b c d : Int} (ha : 0 ≤ a ∧ a < 20) (hb : 0 ≤ b ∧ b < 90) (hc : 0 ≤ c ∧ c < 10) (hd : 0 ≤ d ∧ d < 1000) : opOk 3 (1 + a) b c d = true := by
 simp only [opOk, inB, timeOk]; simp; omega
theorem op_fire {a b : Int} (ha : 0 ≤ a ∧ a < 20) (hb : 0 ≤ b ∧ b < 5) : opOk 4 (1 + a) b 0 0 = true := by
 simp only [opOk, inB]; simp; omega
theorem op_lease {a : Int} (ha : 0 ≤ a ∧ a < 40) : opOk 5 (1 + a) 0 0 0 = true := by
 simp only [opOk, inB]; simp; omega
theorem c_w9Op  : Rolls Tryz.prog 135 108 [] (α := Ask) (fun o => opOk o.kind o.a o.b o.c o.d = true) (fun o => [many' (opR5 o)]) := by
 refine rolls_intro (N := 41) Tryz.func108 rfl rfl rfl rfl (fun H w g v0 bn δ0 hsrc => ?_)
 refine sq (rg (evl_e (e_alloc ttOk rfl rfl rfl rfl) (nl (et (sq (sq (rg (xm rfl rfl (evl_roll (nm := 4) (cf rfl) (c_below _ om) rfl rfl hsrc (rs_of rfl) (fun _ => rfl) (fun x1 δ1 r1 => ?_))))))))))
 refine rlk rfl rfl rfl ?_
 obtain ⟨r1a, r1b⟩ := r1
 refine nl (et (ev_blk (sq (rg (xb ttOk rfl rfl (xs rfl rfl (nl (et (ev_cond rfl (fun h2 => ?_) (fun h2 => ?_))))))))))
 ·try have d2 := of_decide_eq_true h2
  refine sq (rg (xm rfl rfl (evl_roll (nm := 8) (cf rfl) (c_below _ om) rfl rfl hsrc (rs_of rfl) (fun _ => rfl) (fun x3 δ3 r3 => ?_))))
  refine rlk rfl rfl rfl ?_
  obtain ⟨r3a, r3b⟩ := r3
  refine xo (q_build ttOk rfl) rfl (xst ttOk rfl rfl (nl (et (ev_ret (evr_blk (evr_then (ret_roll ⟨0, 0, 2, x3, 0, 0, 0⟩ δ3 ttOk rfl rfl rfl rfl ?_ ?_)))))))
  ·simp [RpLe, L2, RcLe]
  ·exact op_cut ⟨r3a, r3b⟩
 ·try have d2 := of_decide_eq_false h2
  refine sq (rg (xb ttOk rfl rfl (xs rfl rfl (nl (et (ev_cond rfl (fun h4 => ?_) (fun h4 => ?_)))))))
  ·try have d4 := of_decide_eq_true h4
   refine sq (rg (xm rfl rfl (evl_roll (nm := 13) (cf rfl) (c_below _ om) rfl rfl hsrc (rs_of rfl) (fun _ => rfl) (fun x5 δ5 r5 => ?_))))
   refine rlk rfl rfl rfl ?_
   obtain ⟨r5a, r5b⟩ := r5
   refine xa rfl rfl rfl om rfl (xm rfl rfl (evl_roll (nm := 16) (cf rfl) (c_below _ om) rfl rfl hsrc (rs_of rfl) (fun _ => rfl) (fun x6 δ6 r6 => ?_)))
   refine rlk rfl rfl rfl ?_
   obtain ⟨r6a, r6b⟩ := r6
   refine xm rfl rfl (evl_roll (nm := 18) (cf rfl) (c_below _ om) rfl rfl hsrc (rs_of rfl) (fun _ => rfl) (fun x7 δ7 r7 => ?_))
   refine rlk rfl rfl rfl ?_
   obtain ⟨r7a, r7b⟩ := r7
   refine xm rfl rfl (evl_roll (nm := 20) (cf rfl) (c_below _ om) rfl rfl hsrc (rs_of rfl) (fun _ => rfl) (fun x8 δ8 r8 => ?_))
   refine rlk rfl rfl rfl ?_
   obtain ⟨r8a, r8b⟩ := r8
   refine xo (q_build ttOk rfl) rfl (xst ttOk rfl rfl (nl (et (ev_ret (evr_blk (evr_then (ret_roll ⟨0, 0, 3, 1 + x5, x6, x7, x8⟩ δ8 ttOk rfl rfl rfl rfl ?_ ?_)))))))
   ·simp [RpLe, L2, RcLe]
   ·exact op_job ⟨r5a, r5b⟩ ⟨r6a, r6b⟩ ⟨r7a, r7b⟩ ⟨r8a, r8b⟩
  ·try have d4 := of_decide_eq_false h4
   refine sq (rg (xb ttOk rfl rfl (xs rfl rfl (nl (et (ev_cond rfl (fun h9 => ?_) (fun h9 => ?_)))))))
   ·try have d9 := of_decide_eq_true h9
    refine sq (rg (xm rfl rfl (evl_roll (nm := 25) (cf rfl) (c_below _ om) rfl rfl hsrc (rs_of rfl) (fun _ => rfl) (fun x10 δ10 r10 => ?_))))
    refine rlk rfl rfl rfl ?_
    obtain ⟨r10a, r10b⟩ := r10
    refine xa rfl rfl rfl om rfl (xm rfl rfl (evl_roll (nm := 28) (cf rfl) (c_below _ om) rfl rfl hsrc (rs_of rfl) (fun _ => rfl) (fun x11 δ11 r11 => ?_)))
    refine rlk rfl rfl rfl ?_
    obtain ⟨r11a, r11b⟩ := r11
    refine xo (q_build ttOk rfl) rfl (xst ttOk rfl rfl (nl (et (ev_ret (evr_blk (evr_then (ret_roll ⟨0, 0, 4, 1 + x10, x11, 0, 0⟩ δ11 ttOk rfl rfl rfl rfl ?_ ?_)))))))
    ·simp [RpLe, L2, RcLe]
    ·exact op_fire ⟨r10a, r10b⟩ ⟨r11a, r11b⟩
   ·try have d9 := of_decide_eq_false h9
    refine sq (rg (xb ttOk rfl rfl (xs rfl rfl (nl (et (ev_cond rfl (fun h12 => ?_) (fun h12 => ?_)))))))
    ·try have d12 := of_decide_eq_true h12
     refine sq (rg (xm rfl rfl (evl_roll (nm := 33) (cf rfl) (c_below _ om) rfl rfl hsrc (rs_of rfl) (fun _ => rfl) (fun x13 δ13 r13 => ?_))))
     refine rlk rfl rfl rfl ?_
     obtain ⟨r13a, r13b⟩ := r13
     refine xa rfl rfl rfl om rfl (xo (q_build ttOk rfl) rfl (xst ttOk rfl rfl (nl (et (ev_ret (evr_blk (evr_then (ret_roll ⟨0, 0, 5, 1 + x13, 0, 0, 0⟩ δ13 ttOk rfl rfl rfl rfl ?_ ?_))))))))
     ·simp [RpLe, L2, RcLe]
     ·exact op_lease ⟨r13a, r13b⟩
    ·try have d12 := of_decide_eq_false h12
     refine ev_skip (eb (et (sq (rg (xm rfl rfl (evl_roll (nm := 37) (cf rfl) (c_below _ om) rfl rfl hsrc (rs_of rfl) (fun _ => rfl) (fun x14 δ14 r14 => ?_)))))))
     refine rlk rfl rfl rfl ?_
     obtain ⟨r14a, r14b⟩ := r14
     refine xm rfl rfl (evl_roll (nm := 39) (cf rfl) (c_below _ om) rfl rfl hsrc (rs_of rfl) (fun _ => rfl) (fun x15 δ15 r15 => ?_))
     refine rlk rfl rfl rfl ?_
     obtain ⟨r15a, r15b⟩ := r15
     refine xo (q_build ttOk rfl) rfl (xst ttOk rfl rfl (nl (et (ev_ret (ret_roll ⟨0, 0, 1, x14, x15, 0, 0⟩ δ15 ttOk rfl rfl rfl rfl ?_ ?_)))))
     ·simp [RpLe, L2, RcLe]
     ·exact op_put ⟨r14a, r14b⟩ ⟨r15a, r15b⟩
theorem c_w9Ask  : Rolls Tryz.prog 135 40 [] (α := Ask) (fun a => askOkF a = true ∧ a.seq ≤ 9) (fun a => [many' (askR a)]) := by
 refine rolls_intro (N := 12) Tryz.func40 rfl rfl rfl rfl (fun H w g v0 bn δ0 hsrc => ?_)
 refine sq (rg (evl_e (e_alloc ttOk rfl rfl rfl rfl) (nl (et (sq (rg (xm rfl rfl (evl_roll (nm := 4) (cf rfl) (c_below _ om) rfl rfl hsrc (rs_of rfl) (fun _ => rfl) (fun x1 δ1 r1 => ?_)))))))))
 refine rlk rfl rfl rfl ?_
 obtain ⟨r1a, r1b⟩ := r1
 refine xa rfl rfl rfl om rfl (xm rfl rfl (evl_roll (nm := 7) (cf rfl) (c_below _ om) rfl rfl hsrc (rs_of rfl) (fun _ => rfl) (fun x2 δ2 r2 => ?_)))
 refine rlk rfl rfl rfl ?_
 obtain ⟨r2a, r2b⟩ := r2
 refine xa rfl rfl rfl om rfl (xm rfl rfl (evl_roll (nm := 10) (cf rfl) c_w9Op rfl rfl hsrc (rs_of rfl) (fun _ => rfl) (fun x3 δ3 r3 => ?_)))
 refine rlk rfl rfl rfl (xo (q_build ttOk rfl) rfl (xst ttOk rfl rfl (nl (et (ev_ret (ret_roll ⟨2 + x1, 1 + x2, x3.kind, x3.a, x3.b, x3.c, x3.d⟩ δ3 ttOk rfl rfl rfl rfl ?_ ?_))))))
 ·simp [RpLe, L2, RcLe]
 ·refine ⟨?_, by show 1 + x2 ≤ 9; omega⟩
  have h1 : askerOk (2 + x1) = true := inB_iff.2 ⟨by omega, by omega⟩
  have h2 : seqOk (1 + x2) = true := inB_iff.2 ⟨by omega, by omega⟩
  simp only [askOkF, h1, h2, r3, Bool.and_self]
theorem c_w9Fresh (n : LogN) (hn : seenOk n.seen = true) : Rolls Tryz.prog 135 27 [many (logC n)] (α := Ask) (fun a => askerOk a.client = true ∧ opOk a.kind a.a a.b a.c a.d = true ∧ a.seq = (findM n.seen a.client).seq + 1) (fun a => [many' (askR a)]) := by
 refine rolls_intro (N := 17) Tryz.func27 rfl rfl rfl rfl (fun H w g v0 bn δ0 hsrc => ?_)
 have hfs := find_seq (sok_of hn)
 refine sq (rg (evl_e (e_box rfl rfl rfl rfl) (evl_e (e_alloc ttOk rfl rfl rfl rfl) (nl (et (sq (rg (xm rfl rfl (evl_roll (nm := 7) (cf rfl) c_w9Ask rfl rfl hsrc (rs_of rfl) (fun _ => rfl) (fun x1 δ1 r1 => ?_))))))))))
 refine rlk rfl rfl rfl (evl_e (e_alloc ttOk rfl rfl rfl rfl) (xst ttOk rfl rfl (nl (et (sq (rg (xf ttOk rfl rfl (xl ttOk rfl rfl (xf ttOk rfl rfl (xl ttOk rfl rfl (evl_call (nm := 12) (cf rfl) (c_MarkOf2 n.seen _ hn) (rs_of rfl) rfl rfl rfl (xo (q_field ttOk rfl) rfl (xo (q_ar rfl rfl rfl (by have := hfs x1.client; omega)) rfl (xf ttOk rfl rfl (xst ttOk rfl rfl (nl (et (sq ?_))))))))))))))))))
 simp only [askOkF, Bool.and_eq_true] at r1
 refine rg (xl ttOk rfl rfl (xst ttOk rfl rfl (nl (et (ev_ret (ret_roll ⟨x1.client, (findM n.seen x1.client).seq + 1, x1.kind, x1.a, x1.b, x1.c, x1.d⟩ δ1 ttOk rfl rfl rfl rfl ?_ ?_))))))
 ·simp [RpLe, L2, RcLe]
 ·exact ⟨r1.1.1, r1.1.2.2, rfl⟩
theorem over_seq {B : Int} : ∀ {es : List Entry} {l c : List Mark}, overL l es = some c → (∀ m ∈ l, m.seq ≤ B) → (∀ e ∈ es, e.seq ≤ B) → ∀ m ∈ c, m.seq ≤ B
 | [], l, c, h, h1, _ => by cases h; exact h1
 | e :: es, l, c, h, h1, h2 => by
  unfold overL at h
  split at h
  ·refine over_seq h (fun m hm => ?_) (fun x hx => h2 x (by simp [hx]))
   rcases mem_ins.1 hm with rfl | ⟨hm, _⟩
   ·exact h2 e (by simp)
   ·exact h1 m hm
  ·cases h
structure Lg (k : Nat) (n : LogN) : Prop where
 j : LogJ n
 last : lastB n.book ≤ k
 hs : ∀ m ∈ n.head.seen, m.seq ≤ 9 + k
 es : ∀ e ∈ n.book.entries, e.seq ≤ 9 + k
theorem findM_seq {l : List Mark} {B : Int} (h0 : 0 ≤ B) (h : ∀ m ∈ l, m.seq ≤ B) (c : Int) : (findM l c).seq ≤ B := by
 unfold findM
 cases hf : l.find? fun m => decide (m.client = c) with
 | none => exact h0
 | some m => exact h m (List.mem_of_find?_eq_some hf)
section
variable {n : LogN} {k : Nat}
theorem Lg.ok (h : Lg k n) : logOkF n = true := h.j.ok
theorem Lg.seenOk (h : Lg k n) : Go.Proofs.YtinmcdcmidlgpaaGreatDoor.seenOk n.seen = true := of_sok (log_seen h.ok).2.2
theorem Lg.seen (h : Lg k n) : ∀ m ∈ n.seen, m.seq ≤ 9 + k := over_seq (log_seen h.ok).1 h.hs h.es
theorem Lg.seq (h : Lg k n) (c : Int) : (findM n.seen c).seq ≤ 9 + k := findM_seq om h.seen c
theorem Lg.mono (h : Lg k n) {k2 : Nat} (hk : k ≤ k2) : Lg k2 n := ⟨h.j, by have := h.last; omega, fun m hm => by have := h.hs m hm; omega, fun m hm => by have := h.es m hm; omega⟩
theorem Lg.base (h : Lg k n) : 0 ≤ n.book.base := (book_bd h.j.parts.2.2.1).1
theorem Lg.len (h : Lg k n) : (n.book.entries.length : Int) ≤ lastB n.book := by
 have := h.base
 unfold lastB; omega
theorem Lg.next_seen (h : Lg k n) (hm : n.more = true) : ∀ m ∈ n.next.seen, m.seq ≤ 9 + k := by
 obtain ⟨n1, n2, n3, n4, n5⟩ := h.j.next hm
 have hd := log_dur h.ok
 have hb := (log_bases h.ok).1
 have ho := (next_over h.ok (x := n.next.base) om om).1
 rw [← n5] at ho
 exact over_seq ho h.hs fun e he => h.es e (List.mem_of_mem_take he)
theorem Lg.sync (h : Lg k n) : Lg k (syncedF n).1 := by
 have hj := h.j.sync
 obtain ⟨hk, hh, hb, he, ht, _⟩ := h.j.parts
 have hd := log_dur h.ok
 cases hm : n.more
 ·rw [sy_less h.ok hm] at hj ⊢
  exact ⟨hj, h.last, h.hs, h.es⟩
 ·obtain ⟨n1, n2, n3, n4, n5⟩ := h.j.next hm
  have hx : inB n.next.base n.book.base (lastB n.book) = true := inB_iff.2 ⟨by omega, by omega⟩
  rw [sy_more h.ok hm] at hj ⊢
  rw [tr_yes hb hx] at hj ⊢
  refine ⟨hj, ?_, h.next_seen hm, fun e he => h.es e (List.mem_of_mem_drop he)⟩
  have hl := h.last
  unfold lastB at hl hd ⊢
  simp only [List.length_drop]
  omega
theorem Lg.trim (h : Lg k n) (x : Int) : Lg k (trimAskedF n x) := by
 have hj := h.j.trim x
 cases hm : n.more
 ·cases hx : inB x (n.head.base + 1) n.durable
  ·rw [trim_same h.ok (.inr hx)]; exact h
  ·rw [h.j.trim_eq hm hx] at hj ⊢
   exact ⟨hj, h.last, h.hs, h.es⟩
 ·rw [trim_same h.ok (.inl hm)]; exact h
theorem Lg.fits (h : Lg k n) {a : Ask} {now : Int} (ha : askOkF a = true) (hn : timeOk now = true) (hk : k < 2000) (hl : n.book.entries.length < 20) : fitsF n.book (entA n a now) = true := by
 have := h.last
 exact entA_fits h.j.parts.2.2.1 ha hn om hl
theorem Lg.takes (h : Lg k n) {a : Ask} {now : Int} (ha : askOkF a = true) (hn : timeOk now = true) (hk : k < 2000) (hl : n.book.entries.length < 20) : takesA n (entA n a now) = true := h.j.takes (h.fits ha hn hk hl)
theorem Lg.fresh (h : Lg k n) {a : Ask} {now : Int} (ha : askOkF a = true) (hn : timeOk now = true) (hk : k < 2000) (hl : n.book.entries.length < 20) (hs : a.seq > (findM n.seen a.client).seq) : freshF n.seen (entA n a now) = true :=
 fresh_of h.ok (fits_iff.1 (h.fits ha hn hk hl)).1 hs rfl
theorem Lg.withE (h : Lg k n) {a : Ask} {now : Int} (ha : askOkF a = true) (hn : timeOk now = true) (hk : k < 2000) (hl : n.book.entries.length < 20) (hs : a.seq > (findM n.seen a.client).seq) (hq : a.seq ≤ 10 + k) : Lg (k + 1) (Go.Proofs.YtinmcdcmidlgpaaGreatDoor.withE n (entA n a now)) := by
 have hla := h.last
 refine ⟨h.j.ask (h.fits ha hn hk hl) (h.fresh ha hn hk hl hs), ?_, fun m hm => by have := h.hs m hm; omega, fun e he => ?_⟩
 ·show lastB (appF n.book _) ≤ _
  unfold lastB at hla ⊢
  simp only [appF, List.length_append, List.length_singleton]
  omega
 ·have he : e ∈ n.book.entries ++ [entA n a now] := he
  rcases List.mem_append.1 he with he | he
  ·have := h.es e he; omega
  ·rw [List.mem_singleton.1 he]
   show a.seq ≤ _
   omega
theorem Lg.ask (h : Lg k n) {a : Ask} {now : Int} (ha : askOkF a = true) (hn : timeOk now = true) (hk : k < 2000) (hl : n.book.entries.length < 20) (hq : a.seq ≤ 10 + k) : Lg (k + 1) (askedF n a now).1 := by
 rcases Int.lt_trichotomy (findM n.seen a.client).seq a.seq with hs | hs | hs
 ·rw [ak_fresh h.ok ha hn hs]
  show Lg (k + 1) (freshLogF n a now)
  unfold freshLogF
  rw [h.takes ha hn hk hl]
  exact h.withE ha hn hk hl hs hq
 ·rcases Int.lt_or_le n.durable (findM n.seen a.client).index with h9 | h9
  ·rw [ak_wait h.ok ha hn hs.symm h9]; exact h.mono om
  ·rw [ak_told h.ok ha hn hs.symm om]; exact h.mono om
 ·rw [ak_old h.ok ha hn hs]; exact h.mono om
theorem newLg : Lg 0 newLogF := ⟨newJ, by decide, fun m hm => by have hm : m ∈ ([] : List Mark) := hm; simp at hm, fun m hm => by have hm : m ∈ ([] : List Entry) := hm; simp at hm⟩
theorem Lg.fresh_ok (h : Lg k n) {a : Ask} (h1 : askerOk a.client = true) (h2 : opOk a.kind a.a a.b a.c a.d = true) (h3 : a.seq = (findM n.seen a.client).seq + 1) (hk : k < 1900) : askOkF a = true ∧ a.seq ≤ 10 + k ∧ a.seq > (findM n.seen a.client).seq := by
 have h4 := h.seq a.client
 have h5 := find_seq (sok_of h.seenOk) a.client
 have h6 : seqOk a.seq = true := inB_iff.2 ⟨by omega, by omega⟩
 exact ⟨by simp only [askOkF, h1, h2, h6, Bool.and_self], by omega, by omega⟩
end
end Go.Proofs.YtinmcdcmidlgpaaGreatDoor
