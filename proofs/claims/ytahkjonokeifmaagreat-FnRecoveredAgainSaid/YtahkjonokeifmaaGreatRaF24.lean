/- Walks of functions of the program, printed by a program of the prover. -/
import Derived.Test.YtahkjonokeifmaaGreatRaF22
namespace Go.Proofs.YtahkjonokeifmaaGreat
open Go.ChangeShapes Go.WideShapes Go.ChangeAt Go.RowKit
set_option linter.unusedVariables false
set_option linter.unusedSimpArgs false
set_option maxHeartbeats 1000000
set_option maxRecDepth 100000
attribute [local irreducible] EvL Ev EvE Quiet Eff Pure RDk RDb RDo
theorem rs_c_sub {S : St} {x y : Operand} {c z : C} {r n k j ty : Nat} {l : List (List C)} {cs : List C} (hx : opv S.T x = some (.p false [.c c])) (hy : opv S.T y = some (.p false [.sub r n k j])) (hr : lk S.R r = some (ty, n, l)) (hk : l[k]? = some cs) (hj : cs[j]? = some z) : RsA S [x, y] [(false, [c]), (false, [z])] := ⟨⟨_, hx, rfl, trivial⟩, ⟨_, hy, ⟨ty, l, cs, hr, hk, hj⟩, trivial⟩, trivial⟩
theorem rs_sub_sub {S : St} {x y : Operand} {c z : C} {r n k j ty r2 n2 k2 j2 ty2 : Nat} {l l2 : List (List C)} {cs cs2 : List C} (hx : opv S.T x = some (.p false [.sub r2 n2 k2 j2])) (hr2 : lk S.R r2 = some (ty2, n2, l2)) (hk2 : l2[k2]? = some cs2) (hj2 : cs2[j2]? = some c) (hy : opv S.T y = some (.p false [.sub r n k j])) (hr : lk S.R r = some (ty, n, l)) (hk : l[k]? = some cs) (hj : cs[j]? = some z) : RsA S [x, y] [(false, [c]), (false, [z])] := ⟨⟨_, hx, ⟨ty2, l2, cs2, hr2, hk2, hj2⟩, trivial⟩, ⟨_, hy, ⟨ty, l, cs, hr, hk, hj⟩, trivial⟩, trivial⟩
def tornF (row old : List Int) : List Int := row.take (row.length / 2) ++ old.drop (row.length / 2)
def fallStep (fate : Int) (all : Bool) (K : List (List Int)) (x : Int × List Int) : List (List Int) := if all = true ∨ fate = 1 then K.set x.1.toNat x.2 else if fate = 2 then K.set x.1.toNat (tornF x.2 (K.getD x.1.toNat [])) else K
def fateAt (F : List Int) (k : Nat) : Int := F.getD k 0
def fallUp (d : Disk) (F : List Int) (all : Bool) : Nat → List (List Int)
 | 0 => d.kept
 | k + 1 => fallStep (fateAt F k) all (fallUp d F all k) (d.wait.getD k (0, []))
def fallF (d : Disk) (F : List Int) (all : Bool) : Disk := if diskOk d then ⟨fallUp d F all d.wait.length, []⟩ else zeroD
theorem fall_no {d : Disk} {F : List Int} {all : Bool} (h : diskOk d = false) : fallF d F all = zeroD := by simp [fallF, h]
theorem fall_yes {d : Disk} {F : List Int} {all : Bool} (h : diskOk d = true) : fallF d F all = ⟨fallUp d F all d.wait.length, []⟩ := by simp [fallF, h]
theorem fallUp_len (d : Disk) (F : List Int) (all : Bool) : ∀ k, (fallUp d F all k).length = d.kept.length
 | 0 => rfl
 | k + 1 => by
  have := fallUp_len d F all k
  simp only [fallUp, fallStep]
  split
  ·simpa using this
  ·split
   ·simpa using this
   ·exact this
theorem wait_at {d : Disk} (h : diskOk d = true) {k : Nat} (hk : k < d.wait.length) : 0 ≤ d.wait[k].1 ∧ d.wait[k].1 < d.kept.length ∧ d.wait[k].2.length ≤ 48 := by
 have := (diskOk_sizes h).2.2.2.2 _ (List.getElem_mem hk)
 simp only [writeOk, Bool.and_eq_true] at this
 have h2 := hasAt_iff.1 this.1
 exact ⟨h2.1, h2.2, (rowOk_nums this.2).1⟩
theorem fallUp_rows {d : Disk} (h : diskOk d = true) (F : List Int) (all : Bool) : ∀ k, k ≤ d.wait.length → ∀ r ∈ fallUp d F all k, r.length ≤ 48
 | 0, _ => fun r hr => (rowOk_nums ((diskOk_sizes h).2.2.2.1 r hr)).1
 | k + 1, hk => fun r hr => by
  have ih := fallUp_rows h F all k om
  have hw := wait_at h (k := k) om
  rw [show fallUp d F all (k + 1) = fallStep (fateAt F k) all (fallUp d F all k) d.wait[k] by simp only [fallUp]; rw [getD_lenW (show k < d.wait.length by omega)]] at hr
  have key : ∀ z : List Int, z.length ≤ 48 → r ∈ (fallUp d F all k).set d.wait[k].1.toNat z → r.length ≤ 48 := fun z hz hm => by
   rcases List.mem_or_eq_of_mem_set hm with h9 | h9
   ·exact ih r h9
   ·rw [h9]; exact hz
  simp only [fallStep] at hr
  split at hr
  ·exact key _ hw.2.2 hr
  ·split at hr
   ·refine key _ ?_ hr
    have hx : d.wait[k].1.toNat < (fallUp d F all k).length := by rw [fallUp_len]; omega
    rw [getD_len hx]
    have := ih _ (List.getElem_mem hx)
    simp only [tornF, List.length_append, List.length_take, List.length_drop]
    omega
   ·exact ih r hr
theorem fall_kept {d : Disk} {F : List Int} {all : Bool} {k : Nat} (hk : k < d.wait.length) (h : all = true ∨ fateAt F k = 1) : ((fallUp d F all k).map fun r => [ints r]).set d.wait[k].1.toNat [ints d.wait[k].2] = (fallUp d F all (k + 1)).map fun r => [ints r] := by
 simp only [fallUp, fallStep, getD_lenW hk]
 rw [if_pos h, List.map_set]
theorem fall_torn {d : Disk} {F : List Int} {all : Bool} {k : Nat} (hk : k < d.wait.length) (h0 : ¬ (all = true ∨ fateAt F k = 1)) (h : fateAt F k = 2) (hx : d.wait[k].1.toNat < (fallUp d F all k).length) : ((fallUp d F all k).map fun r => [ints r]).set d.wait[k].1.toNat [ints (tornF d.wait[k].2 (fallUp d F all k)[d.wait[k].1.toNat])] = (fallUp d F all (k + 1)).map fun r => [ints r] := by
 simp only [fallUp, fallStep, getD_lenW hk]
 rw [if_neg h0, if_pos h, List.map_set, getD_len hx]
theorem fall_lost {d : Disk} {F : List Int} {all : Bool} {k : Nat} (h0 : ¬ (all = true ∨ fateAt F k = 1)) (h : ¬ fateAt F k = 2) : ((fallUp d F all k).map fun r => [ints r]) = (fallUp d F all (k + 1)).map fun r => [ints r] := by
 simp only [fallUp, fallStep]
 rw [if_neg h0, if_neg h]
theorem fate_in {F : List Int} {k : Nat} (hk : k < F.length) : fateAt F k = F[k] := by simp [fateAt, hk]
theorem fate_out {F : List Int} {k : Nat} (hk : ¬ k < F.length) : fateAt F k = 0 := by simp [fateAt, hk]
theorem c_BothWrote' (t : Two) (x : Int) (row : List Int) : Pure Tryz.prog 57 [many (twoC t), one (iC x), one (ints row)] [many' (twoR ((bothWroteF t x row).1)), one' (RC.v (.bool ((bothWroteF t x row).2)))] := by
 refine pure_intro (N := 48) Tryz.func57 rfl rfl rfl rfl (fun H w => ?_)
 refine sq (rg (evl_e (e_box rfl rfl rfl rfl) (evl_e (e_alloc ttOk rfl rfl rfl rfl) (xs rfl rfl (nl (et (sq (sq (rg (xl ttOk rfl rfl (evl_call (nm := 15) (cf rfl) (c_TwoOk' t) (rs_of rfl) rfl rfl rfl (xo (q_not rfl) rfl (nl (et (ev_cond_n rfl (fun h1 => ?_) (fun h1 => ?_))))))))))))))))
 ·refine sq (rg (xo (q_build ttOk rfl) rfl (xst ttOk rfl rfl (xs rfl rfl (nl (et (ev_ret (evr_then (ret_pureN ttOk rfl rfl ?_)))))))))
  first
  | (rw [both_no ‹_›]; simp [RpLe, L2, RcLe, zeroD, zeroT]; done)
  | (rw [both_yes ‹_› ‹_› ‹_› ‹_›]; simp [RpLe, L2, RcLe]; done)
  | (rw [both_fail ‹_› (by simp_all; done)]; simp [RpLe, L2, RcLe]; done)
  | (exfalso; simp_all; done)
 ·obtain ⟨hka, hkb⟩ := twoOk_both h1
  refine ev_skip (et ?_)
  cases hcs : canSum row
  ·refine sq (rg (xm rfl rfl (evl_call (nm := 19) (cf rfl) (c_WithSum_nil row ‹_›) (rs_of rfl) rfl rfl rfl (xs rfl rfl (nl (et (sq (sq (rg (xm rfl rfl ?_))))))))))
   first | refine xb ttOk rfl rfl ?_ | refine xo (q_nilv ttOk rfl rfl ⟨_, _, _, rfl, rfl⟩ (by rw [withSum_yes ‹_›]; simp) rfl rfl) rfl ?_
   refine nl (et (ev_cond_kt rfl (by first | rfl | assumption | exact nt ‹_› | exact nf ‹_›) (sq (rg (xl ttOk rfl rfl (evl_call (nm := 23) (cf rfl) (c_copyTwo t ‹_›) (rs_of rfl) rfl rfl rfl (xst ttOk rfl rfl (xs rfl rfl (nl (et (ev_ret (evr_then (ret_pureN ttOk rfl rfl ?_)))))))))))))
   first
   | (rw [both_no ‹_›]; simp [RpLe, L2, RcLe, zeroD, zeroT]; done)
   | (rw [both_yes ‹_› ‹_› ‹_› ‹_›]; simp [RpLe, L2, RcLe]; done)
   | (rw [both_fail ‹_› (by simp_all; done)]; simp [RpLe, L2, RcLe]; done)
   | (exfalso; simp_all; done)
  ·refine sq (rg (xm rfl rfl (evl_call (nm := 19) (cf rfl) (c_WithSum' row) (rs_of rfl) rfl rfl rfl (xs rfl rfl (nl (et (sq (sq (rg (xm rfl rfl ?_))))))))))
   first | refine xb ttOk rfl rfl ?_ | refine xo (q_nilv ttOk rfl rfl ⟨_, _, _, rfl, rfl⟩ (by rw [withSum_yes ‹_›]; simp) rfl rfl) rfl ?_
   refine nl (et (ev_cond_kf rfl (by first | rfl | assumption | exact nt ‹_› | exact nf ‹_›) (ev_skip (et (sq (rg (xl ttOk rfl rfl (evl_callv (cf rfl) hands_disks rfl rfl rfl rfl (evl_e (e_alloc ttOk rfl rfl rfl rfl) (xst ttOk rfl rfl (nl (et (sq (sq (rg (xl ttOk rfl rfl (xm rfl rfl (nl (et (ev_blk (ev_rounds 2 (sq (rg (xb ttOk rfl rfl (nl (et (sq (ev_cond_kt rfl (by first | rfl | assumption | exact nt ‹_› | exact nf ‹_›) (ev_skip (et (sq (ev_blk (sq (rg (xm rfl rfl ?_)))))))))))))))))))))))))))))))))))
   first | refine xo (q_index 0 ttOk rfl rfl om) rfl ?_ | refine xo (q_index 1 ttOk rfl rfl om) rfl ?_
   refine evl_e (e_alloc ttOk rfl rfl rfl rfl) (xs rfl rfl (xst ttOk rfl rfl (nl (et (sq (rg (xl ttOk rfl rfl (xm rfl rfl (xm rfl rfl ?_)))))))))
   first | refine evl_call (nm := 35) (cf rfl) (c_Wrote' t.a x (withSumF row)) (rs_of rfl) rfl rfl rfl ?_ | refine evl_call (nm := 35) (cf rfl) (c_Wrote' t.b x (withSumF row)) (rs_of rfl) rfl rfl rfl ?_
   refine xm rfl rfl (xo (q_ext rfl) rfl (xo (q_ext rfl) rfl (evl_e (e_alloc ttOk rfl rfl rfl rfl) (xst ttOk rfl rfl (xs rfl rfl (nl (et (sq (sq (rg (xm rfl rfl (xo (q_not rfl) rfl (nl (et (ev_cond_n rfl (fun h2 => ?_) (fun h2 => ?_))))))))))))))))
   ·refine sq (rg (xl ttOk rfl rfl (evl_call (nm := 41) (cf rfl) (c_copyTwo t ‹_›) (rs_of rfl) rfl rfl rfl (xst ttOk rfl rfl (xs rfl rfl (nl (et (ev_ret (evr_then (evr_blk (evr_then (evr_then (evr_blk (evr_then (ret_pureN ttOk rfl rfl ?_)))))))))))))))
    first
    | (rw [both_no ‹_›]; simp [RpLe, L2, RcLe, zeroD, zeroT]; done)
    | (rw [both_yes ‹_› ‹_› ‹_› ‹_›]; simp [RpLe, L2, RcLe]; done)
    | (rw [both_fail ‹_› (by simp_all; done)]; simp [RpLe, L2, RcLe]; done)
    | (exfalso; simp_all; done)
   ·refine ev_skip (et (rg (xm rfl rfl (xl ttOk rfl rfl ?_))))
    first | refine xo (q_ix_arr 0 ttOk rfl rfl om) rfl ?_ | refine xo (q_ix_arr 1 ttOk rfl rfl om) rfl ?_
    refine xst ttOk rfl rfl (nl (eb (et (rg (xa rfl rfl rfl om rfl (xm rfl rfl (nl (eve_again (ev_pr [1, 3, 6, 7, 8, 9, 26, 27] rfl (ev_remB [11, 12] rfl (sq (rg (xb ttOk rfl rfl (nl (et (sq (ev_cond_kt rfl (by first | rfl | assumption | exact nt ‹_› | exact nf ‹_›) (ev_skip (et (sq (ev_blk (sq (rg (xm rfl rfl ?_))))))))))))))))))))))))
    first | refine xo (q_index 0 ttOk rfl rfl om) rfl ?_ | refine xo (q_index 1 ttOk rfl rfl om) rfl ?_
    refine evl_e (e_alloc ttOk rfl rfl rfl rfl) (xs rfl rfl (xst ttOk rfl rfl (nl (et (sq (rg (xl ttOk rfl rfl (xm rfl rfl (xm rfl rfl ?_)))))))))
    first | refine evl_call (nm := 1000035) (cf rfl) (c_Wrote' t.a x (withSumF row)) (rs_of rfl) rfl rfl rfl ?_ | refine evl_call (nm := 1000035) (cf rfl) (c_Wrote' t.b x (withSumF row)) (rs_of rfl) rfl rfl rfl ?_
    refine xm rfl rfl (xo (q_ext rfl) rfl (xo (q_ext rfl) rfl (evl_e (e_alloc ttOk rfl rfl rfl rfl) (xst ttOk rfl rfl (xs rfl rfl (nl (et (sq (sq (rg (xm rfl rfl (xo (q_not rfl) rfl (nl (et (ev_cond_n rfl (fun h3 => ?_) (fun h3 => ?_))))))))))))))))
    ·refine sq (rg (xl ttOk rfl rfl (evl_call (nm := 1000041) (cf rfl) (c_copyTwo t ‹_›) (rs_of rfl) rfl rfl rfl (xst ttOk rfl rfl (xs rfl rfl (nl (et (ev_ret (evr_then (evr_blk (evr_then (evr_then (evr_blk (evr_then (ret_pureN ttOk rfl rfl ?_)))))))))))))))
     first
     | (rw [both_no ‹_›]; simp [RpLe, L2, RcLe, zeroD, zeroT]; done)
     | (rw [both_yes ‹_› ‹_› ‹_› ‹_›]; simp [RpLe, L2, RcLe]; done)
     | (rw [both_fail ‹_› (by simp_all; done)]; simp [RpLe, L2, RcLe]; done)
     | (exfalso; simp_all; done)
    ·refine ev_skip (et (rg (xm rfl rfl (xl ttOk rfl rfl ?_))))
     first | refine xo (q_ix_arr 0 ttOk rfl rfl om) rfl ?_ | refine xo (q_ix_arr 1 ttOk rfl rfl om) rfl ?_
     refine xst ttOk rfl rfl (nl (eb (et (rg (xa rfl rfl rfl om rfl (xm rfl rfl (nl (eve_again (ev_pr [1, 3, 6, 7, 8, 9, 26, 27] rfl (ev_remB [11, 12] rfl (sq (rg (xb ttOk rfl rfl (nl (et (sq (ev_cond_kf rfl (by first | rfl | assumption | exact nt ‹_› | exact nf ‹_›) (ev_exit (evx_then (evx_then (evx_hit (et (sq (rg (xl ttOk rfl rfl (evl_callv (cf rfl) hands_twoOf rfl rfl rfl rfl (xst ttOk rfl rfl (xs rfl rfl (nl (et (ev_ret (ret_pureN ttOk rfl rfl ?_))))))))))))))))))))))))))))))))
     first
     | (rw [both_no ‹_›]; simp [RpLe, L2, RcLe, zeroD, zeroT]; done)
     | (rw [both_yes ‹_› ‹_› ‹_› ‹_›]; simp [RpLe, L2, RcLe]; done)
     | (rw [both_fail ‹_› (by simp_all; done)]; simp [RpLe, L2, RcLe]; done)
     | (exfalso; simp_all; done)
theorem c_l3Torn (row old : List Int) (h : row.length ≤ 48 ∧ old.length ≤ 48) : Pure Tryz.prog 152 [one (ints row), one (ints old)] [one' (intsR 2 (tornF row old))] := by
 refine pure_intro (N := 24) Tryz.func152 rfl rfl rfl rfl (fun H w => ?_)
 refine sq (rg (xs rfl rfl (nl (et (sq (rg (xm rfl rfl (xo (q_len_map ttOk rfl rfl) rfl (xo (q_quo_pos rfl rfl om) rfl (xs rfl rfl (nl (et (sq (rg (xm rfl rfl (xm rfl rfl (xo (q_sl_to_map (k := row.length / 2) ttOk rfl rfl rfl om om) rfl (evl_call (nm := 13) (cf rfl) (c_l1Copy _ (by simp; omega)) (rs_of rfl) rfl rfl rfl (xs rfl rfl (nl (et (sq (sq (rg (xm rfl rfl (xm rfl rfl (xo (q_len_map ttOk rfl rfl) rfl (xb ttOk rfl rfl (nl (et (ev_cond rfl (fun h1 => ?_) (fun h1 => ?_))))))))))))))))))))))))))))))))
 ·try have d1 := of_decide_eq_true h1
  refine rg (xm rfl rfl (xm rfl rfl (xm rfl rfl (xo (q_sl_from_map (k := row.length / 2) ttOk rfl rfl rfl om om) rfl (evl_e (e_app_c ttOk rfl rfl rfl rfl rfl (flat_ints _) (by simp; omega) rfl rfl) (xs rfl rfl (nl (et (sq (rg (xm rfl rfl (xs rfl rfl (nl (et (ev_ret (ret_pure' ttOk rfl rfl ?_))))))))))))))))
  rw [← List.map_append]; rfl
 ·try have d1 := of_decide_eq_false h1
  refine ev_skip (et (sq (rg (xm rfl rfl (xs rfl rfl (nl (et (ev_ret (ret_pure' ttOk rfl rfl ?_)))))))))
  rw [show tornF row old = row.take (row.length / 2) by simp only [tornF]; rw [List.drop_of_length_le om, List.append_nil]]
theorem c_torn (row old : List Int) (h : row.length ≤ 48 ∧ old.length ≤ 48) : Pure Tryz.prog 66 [one (ints row), one (ints old)] [one' (intsR 2 (tornF row old))] := by
 refine pure_intro (N := 24) Tryz.func66 rfl rfl rfl rfl (fun H w => ?_)
 refine sq (rg (xs rfl rfl (nl (et (sq (rg (xm rfl rfl (xo (q_len_map ttOk rfl rfl) rfl (xo (q_quo_pos rfl rfl om) rfl (xs rfl rfl (nl (et (sq (rg (xm rfl rfl (xm rfl rfl (xo (q_sl_to_map (k := row.length / 2) ttOk rfl rfl rfl om om) rfl (evl_call (nm := 13) (cf rfl) (c_copyRow _ (by simp; omega)) (rs_of rfl) rfl rfl rfl (xs rfl rfl (nl (et (sq (sq (rg (xm rfl rfl (xo (q_len_map ttOk rfl rfl) rfl (xm rfl rfl (xb ttOk rfl rfl (nl (et (ev_cond rfl (fun h1 => ?_) (fun h1 => ?_))))))))))))))))))))))))))))))))
 ·try have d1 := of_decide_eq_true h1
  refine rg (xm rfl rfl (xm rfl rfl (xm rfl rfl (xo (q_sl_from_map (k := row.length / 2) ttOk rfl rfl rfl om om) rfl (evl_e (e_app_c ttOk rfl rfl rfl rfl rfl (flat_ints _) (by simp; omega) rfl rfl) (xs rfl rfl (nl (et (sq (rg (xm rfl rfl (xs rfl rfl (nl (et (ev_ret (ret_pure' ttOk rfl rfl ?_))))))))))))))))
  rw [← List.map_append]; rfl
 ·try have d1 := of_decide_eq_false h1
  refine ev_skip (et (sq (rg (xm rfl rfl (xs rfl rfl (nl (et (ev_ret (ret_pure' ttOk rfl rfl ?_)))))))))
  rw [show tornF row old = row.take (row.length / 2) by simp only [tornF]; rw [List.drop_of_length_le om, List.append_nil]]
theorem c_l3Fall (d : Disk) (F : List Int) (all : Bool) (h : diskOk d = true) : Pure Tryz.prog 146 [many (diskC d), one (ints F), one (bC all)] [many' (diskR ⟨fallUp d F all d.wait.length, []⟩)] := by
 refine pure_intro (N := 67) Tryz.func146 rfl rfl rfl rfl (fun H w => ?_)
 have hs := diskOk_sizes h
 refine ev_lenm (t := 1) rfl (fun hL => ?_)
 refine sq (rg (evl_e (e_box rfl rfl rfl rfl) (evl_e (e_alloc ttOk rfl rfl rfl rfl) (nl (et (sq (rg ?_)))))))
 first | refine xo (q_load_pr ttOk rfl rfl rfl rfl (get_map om) rfl rfl) rfl ?_ | refine xl ttOk rfl rfl ?_
 refine evl_call (nm := 12) (cf rfl) (c_l3Copy d h) (rs_of rfl) rfl rfl rfl (xo (q_field ttOk rfl) rfl (xo (q_build ttOk rfl) rfl (evl_e (e_alloc ttOk rfl rfl rfl rfl) (xst ttOk rfl rfl (nl (et (sq (sq (rg (xs rfl rfl (nl (et (ev_blk (ev_loop (fun k : Nat => (⟨[(8, iV k), (1, cV (ints F)), (2, bV all), (3, pbV 3 0), (6, pbV 6 0), (7, pbV 7 0)], [(7, 30, [.rt 101, .c .nil]), (6, 30, [.c .nil, .c .nil]), (3, 30, [.c (rows d.kept), .c (writes d.wait)])], [(101, 45, 1, ((fallUp d F all k).map fun r => [ints r]))], []⟩ : St)) (fun k => k ≤ d.wait.length) (fun k => d.wait.length - k) 0 [(101, 12)] (by simp) ⟨trf, trf, ⟨⟨_, rfl, by rfl⟩, trivial⟩, tre, rfl⟩ ?_))))))))))))))
 intro k hp
 have p0 := hp
 show Ev _ _ _ _ (⟨[(8, iV k), (1, cV (ints F)), (2, bV all), (3, pbV 3 0), (6, pbV 6 0), (7, pbV 7 0)], [(7, 30, [.rt 101, .c .nil]), (6, 30, [.c .nil, .c .nil]), (3, 30, [.c (rows d.kept), .c (writes d.wait)])], [(101, 45, 1, ((fallUp d F all k).map fun r => [ints r]))], []⟩ : St)
 refine sq (sq (rg (xm rfl rfl (xf ttOk rfl rfl ?_))))
 first | refine xo (q_load_pr ttOk rfl rfl rfl rfl (get_map om) rfl rfl) rfl ?_ | refine xl ttOk rfl rfl ?_
 refine xo (q_len_map ttOk rfl rfl) rfl (xb ttOk rfl rfl (nl (et (ev_cond rfl (fun h1 => ?_) (fun h1 => ?_)))))
 ·try have d1 := of_decide_eq_true h1
  refine ev_skip (et (sq (ev_blk (sq ?_))))
  have hx := wait_at h (k := k) om
  have hl := fallUp_len d F all k
  have hrw := fallUp_rows h F all k om
  refine rg (xf ttOk rfl rfl ?_)
  first | refine xo (q_load_pr ttOk rfl rfl rfl rfl (get_map om) rfl rfl) rfl ?_ | refine xl ttOk rfl rfl ?_
  refine xm rfl rfl (xo (q_ix_map ttOk rfl rfl rfl rfl om) rfl ?_)
  first | refine xo (q_load_pr ttOk rfl rfl rfl rfl (get_map om) rfl rfl) rfl ?_ | refine xl ttOk rfl rfl ?_
  refine evl_e (e_alloc ttOk rfl rfl rfl rfl) (xst ttOk rfl rfl (nl (et (sq (rg (xs rfl rfl (nl (et (sq (sq (rg (xm rfl rfl (xm rfl rfl (xo (q_len_map ttOk rfl rfl) rfl (xb ttOk rfl rfl (nl (et (ev_cond rfl (fun h2 => ?_) (fun h2 => ?_)))))))))))))))))))
  ·try have d2 := of_decide_eq_true h2
   have hf := fate_in (F := F) (k := k) om
   refine rg (xm rfl rfl (xm rfl rfl (xo (q_ix_map ttOk rfl rfl rfl rfl om) rfl ?_)))
   first | refine xo (q_load_pr ttOk rfl rfl rfl rfl (get_map om) rfl rfl) rfl ?_ | refine xl ttOk rfl rfl ?_
   refine xs rfl rfl (nl (et (ev_blk (sq (rg (xm rfl rfl (xm rfl rfl (evl_part rfl rfl (fun h3 => ?_) (fun h3 => ?_)))))))))
   ·try have d3 := of_decide_eq_true h3
    refine gn h3 rfl rfl rfl (gn h3 rfl rfl rfl (xo (q_pick_t rfl h3 rfl) rfl (xs rfl rfl (nl (et (ev_cond_kt rfl rfl (ev_pr [1, 2, 3, 6, 7, 8, 9, 10, 15, 16, 17, 18, 19, 20, 21, 22, 23, 24, 25, 26, 27, 28, 29, 30, 31, 32, 33, 34, 35, 36, 37, 38, 39, 40, 41, 42, 43, 44, 45, 46, 47, 48, 49, 50, 51, 52, 53, 54, 55, 56, 57, 58, 59, 60, 61, 62, 63, 64, 65, 66] rfl (ev_drawq [8] mo (rk0 0 rfl (q_fieldAddr ttOk rfl) rfl ?_)))))))))
    first | refine rk0 1 rfl (q_load_pr ttOk rfl rfl rfl rfl (get_map om) rfl rfl) rfl ?_ | refine rk0 1 rfl (q_load ttOk rfl) rfl ?_
    refine rk0 2 rfl (q_fieldAddr ttOk rfl) rfl ?_
    first | refine rk0 3 rfl (q_load_pr ttOk rfl rfl rfl rfl (get_map om) rfl rfl) rfl ?_ | refine rk0 3 rfl (q_load ttOk rfl) rfl ?_
    refine rk0 4 rfl (q_fieldAddr ttOk rfl) rfl ?_
    first | refine rk0 5 rfl (q_load_pr ttOk rfl rfl rfl rfl (get_map om) rfl rfl) rfl ?_ | refine rk0 5 rfl (q_load ttOk rfl) rfl ?_
    refine rdk_one 6 kr (rdo_call (nm := 47) rfl trivial (cf rfl) (c_l1Copy _ om) (rs_of rfl) rfl rfl rfl (rk0 7 rfl (q_ix_rt (m := (d.wait[k]'om).1.toNat) ttOk rfl rfl rfl rfl rfl om (by rw [List.length_map]; omega)) rfl (rdk_one 8 kr (rdo_brk rfl rfl trivial (e_st_pr ttOk rfl rfl rfl rfl rfl rfl rfl (get_map om) rfl rfl rfl rfl rfl) (rdb_endq kr (eb (eb (et (rg (xm rfl rfl (xa rfl rfl rfl om rfl (xs rfl rfl (nl (eve_round (k + 1) [] ?hp ⟨trf, trf, ⟨⟨_, rfl, by (first | (exact fall_kept om (by simp_all)) | (exfalso; simp_all; done))⟩, trivial⟩, tre, rfl⟩))))))))))))))
    case hp => exact ⟨by omega, by omega⟩
   ·try have d3 := of_decide_eq_false h3
    refine gm h3 rfl rfl rfl rfl (go h3 rfl rfl (q_bin ttOk rfl) rfl (xo (q_pick_f rfl h3 rfl) rfl (xs rfl rfl (nl (et (ev_cond rfl (fun h4 => ?_) (fun h4 => ?_)))))))
    ·try have d4 := of_decide_eq_true h4
     refine ev_pr [1, 2, 3, 6, 7, 8, 9, 10, 15, 16, 17, 18, 19, 20, 21, 22, 23, 24, 25, 26, 27, 28, 29, 30, 31, 32, 33, 34, 35, 36, 37, 38, 39, 40, 41, 42, 43, 44, 45, 46, 47, 48, 49, 50, 51, 52, 53, 54, 55, 56, 57, 58, 59, 60, 61, 62, 63, 64, 65, 66] rfl (ev_drawq [8] mo (rk0 0 rfl (q_fieldAddr ttOk rfl) rfl ?_))
     first | refine rk0 1 rfl (q_load_pr ttOk rfl rfl rfl rfl (get_map om) rfl rfl) rfl ?_ | refine rk0 1 rfl (q_load ttOk rfl) rfl ?_
     refine rk0 2 rfl (q_fieldAddr ttOk rfl) rfl ?_
     first | refine rk0 3 rfl (q_load_pr ttOk rfl rfl rfl rfl (get_map om) rfl rfl) rfl ?_ | refine rk0 3 rfl (q_load ttOk rfl) rfl ?_
     refine rk0 4 rfl (q_fieldAddr ttOk rfl) rfl ?_
     first | refine rk0 5 rfl (q_load_pr ttOk rfl rfl rfl rfl (get_map om) rfl rfl) rfl ?_ | refine rk0 5 rfl (q_load ttOk rfl) rfl ?_
     refine rdk_one 6 kr (rdo_call (nm := 47) rfl trivial (cf rfl) (c_l1Copy _ om) (rs_of rfl) rfl rfl rfl (rk0 7 rfl (q_ix_rt (m := (d.wait[k]'om).1.toNat) ttOk rfl rfl rfl rfl rfl om (by rw [List.length_map]; omega)) rfl (rdk_one 8 kr (rdo_brk rfl rfl trivial (e_st_pr ttOk rfl rfl rfl rfl rfl rfl rfl (get_map om) rfl rfl rfl rfl rfl) (rdb_endq kr (eb (eb (et (rg (xm rfl rfl (xa rfl rfl rfl om rfl (xs rfl rfl (nl (eve_round (k + 1) [] ?hp ⟨trf, trf, ⟨⟨_, rfl, by (first | (exact fall_kept om (by simp_all)) | (exfalso; simp_all; done))⟩, trivial⟩, tre, rfl⟩))))))))))))))
     case hp => exact ⟨by omega, by omega⟩
    ·try have d4 := of_decide_eq_false h4
     refine ev_pr [1, 2, 3, 6, 7, 8, 9, 10, 15, 16, 17, 18, 19, 20, 21, 22, 23, 24, 25, 26, 27, 28, 29, 30, 31, 32, 33, 34, 35, 36, 37, 38, 39, 40, 41, 42, 43, 44, 45, 46, 47, 48, 49, 50, 51, 52, 53, 54, 55, 56, 57, 58, 59, 60, 61, 62, 63, 64, 65, 66] rfl (sq (rg (xm rfl rfl (xb ttOk rfl rfl (xs rfl rfl (nl (et (ev_cond rfl (fun h5 => ?_) (fun h5 => ?_)))))))))
     ·try have d5 := of_decide_eq_true h5
      refine ev_drawq [14] mo (rk0 0 rfl (q_fieldAddr ttOk rfl) rfl ?_)
      first | refine rk0 1 rfl (q_load_pr ttOk rfl rfl rfl rfl (get_map om) rfl rfl) rfl ?_ | refine rk0 1 rfl (q_load ttOk rfl) rfl ?_
      refine rk0 2 rfl (q_fieldAddr ttOk rfl) rfl ?_
      first | refine rk0 3 rfl (q_load_pr ttOk rfl rfl rfl rfl (get_map om) rfl rfl) rfl ?_ | refine rk0 3 rfl (q_load ttOk rfl) rfl ?_
      refine rk0 4 rfl (q_fieldAddr ttOk rfl) rfl ?_
      first | refine rk0 5 rfl (q_load_pr ttOk rfl rfl rfl rfl (get_map om) rfl rfl) rfl ?_ | refine rk0 5 rfl (q_load ttOk rfl) rfl ?_
      refine rk0 6 rfl (q_fieldAddr ttOk rfl) rfl ?_
      first | refine rk0 7 rfl (q_load_pr ttOk rfl rfl rfl rfl (get_map om) rfl rfl) rfl ?_ | refine rk0 7 rfl (q_load ttOk rfl) rfl ?_
      refine rk0 8 rfl (q_fieldAddr ttOk rfl) rfl ?_
      first | refine rk0 9 rfl (q_load_pr ttOk rfl rfl rfl rfl (get_map om) rfl rfl) rfl ?_ | refine rk0 9 rfl (q_load ttOk rfl) rfl ?_
      refine rk0 10 rfl (q_ix_rt (m := (d.wait[k]'om).1.toNat) ttOk rfl rfl rfl rfl rfl om (by rw [List.length_map]; omega)) rfl ?_
      first | refine rk0 11 rfl (q_load_pr ttOk rfl rfl rfl rfl (get_map om) rfl rfl) rfl ?_ | refine rk0 11 rfl (q_load ttOk rfl) rfl ?_
      refine rdk_one 12 kr (rdo_call (nm := 64) rfl trivial (cf rfl) (c_l3Torn (d.wait[k]'om).2 ((fallUp d F all k)[(d.wait[k]'om).1.toNat]'om) ⟨by omega, hrw _ (List.getElem_mem _)⟩) (rs_c_sub rfl rfl rfl (get_map om) rfl) rfl rfl rfl (rk0 13 rfl (q_ix_rt (m := (d.wait[k]'om).1.toNat) ttOk rfl rfl rfl rfl rfl om (by rw [List.length_map]; omega)) rfl (rdk_one 14 kr (rdo_brk rfl rfl trivial (eff_flt 101 (e_st_pr ttOk rfl rfl rfl rfl rfl rfl rfl (get_map om) rfl rfl rfl rfl rfl)) (rdb_endq kr (eb (eb (et (rg (xm rfl rfl (xa rfl rfl rfl om rfl (xs rfl rfl (nl (eve_round (k + 1) [] ?hp ⟨trf, trf, ⟨⟨_, rfl, by (first | (exact fall_torn om (by simp_all) (by simp_all) (by rw [fallUp_len]; omega)) | (exfalso; simp_all; done))⟩, trivial⟩, tre, rfl⟩))))))))))))))
      case hp => exact ⟨by omega, by omega⟩
     ·try have d5 := of_decide_eq_false h5
      refine ev_skip (eb (eb (et (rg (xm rfl rfl (xa rfl rfl rfl om rfl (xs rfl rfl (nl (eve_round (k + 1) [] ?hp ⟨trf, trf, ⟨⟨_, rfl, by (first | (exact fall_lost (by simp_all) (by simp_all)) | (exfalso; simp_all; done))⟩, trivial⟩, tre, rfl⟩)))))))))
      case hp => exact ⟨by omega, by omega⟩
  ·try have d2 := of_decide_eq_false h2
   have hf := fate_out (F := F) (k := k) om
   refine ev_skip (et (ev_blk (sq (rg (xm rfl rfl (xm rfl rfl (evl_part rfl rfl (fun h6 => ?_) (fun h6 => ?_))))))))
   ·try have d6 := of_decide_eq_true h6
    refine gn h6 rfl rfl rfl (gn h6 rfl rfl rfl (xo (q_pick_t rfl h6 rfl) rfl (xs rfl rfl (nl (et (ev_cond_kt rfl rfl (ev_drawq [8] mo (rk0 0 rfl (q_fieldAddr ttOk rfl) rfl ?_))))))))
    first | refine rk0 1 rfl (q_load_pr ttOk rfl rfl rfl rfl (get_map om) rfl rfl) rfl ?_ | refine rk0 1 rfl (q_load ttOk rfl) rfl ?_
    refine rk0 2 rfl (q_fieldAddr ttOk rfl) rfl ?_
    first | refine rk0 3 rfl (q_load_pr ttOk rfl rfl rfl rfl (get_map om) rfl rfl) rfl ?_ | refine rk0 3 rfl (q_load ttOk rfl) rfl ?_
    refine rk0 4 rfl (q_fieldAddr ttOk rfl) rfl ?_
    first | refine rk0 5 rfl (q_load_pr ttOk rfl rfl rfl rfl (get_map om) rfl rfl) rfl ?_ | refine rk0 5 rfl (q_load ttOk rfl) rfl ?_
    refine rdk_one 6 kr (rdo_call (nm := 47) rfl trivial (cf rfl) (c_l1Copy _ om) (rs_of rfl) rfl rfl rfl (rk0 7 rfl (q_ix_rt (m := (d.wait[k]'om).1.toNat) ttOk rfl rfl rfl rfl rfl om (by rw [List.length_map]; omega)) rfl (rdk_one 8 kr (rdo_brk rfl rfl trivial (e_st_pr ttOk rfl rfl rfl rfl rfl rfl rfl (get_map om) rfl rfl rfl rfl rfl) (rdb_endq kr (eb (eb (et (ev_pr [1, 2, 3, 6, 7, 8, 9, 10, 15, 16, 17, 18, 19, 20, 21, 22, 23, 24, 25, 26, 27, 28, 29, 30, 31, 32, 33, 34, 35, 36, 37, 38, 39, 40, 41, 42, 43, 44, 45, 46, 47, 48, 49, 50, 51, 52, 53, 54, 55, 56, 57, 58, 59, 60, 61, 62, 63, 64, 65, 66] rfl (rg (xm rfl rfl (xa rfl rfl rfl om rfl (xs rfl rfl (nl (eve_round (k + 1) [] ?hp ⟨trf, trf, ⟨⟨_, rfl, by (first | (exact fall_kept om (by simp_all)) | (exfalso; simp_all; done))⟩, trivial⟩, tre, rfl⟩)))))))))))))))
    case hp => exact ⟨by omega, by omega⟩
   ·try have d6 := of_decide_eq_false h6
    refine gm h6 rfl rfl rfl rfl (go h6 rfl rfl (q_bin ttOk rfl) rfl (xo (q_pick_f rfl h6 rfl) rfl (xs rfl rfl (nl (et (ev_cond rfl (fun h7 => ?_) (fun h7 => ?_)))))))
    ·try have d7 := of_decide_eq_true h7
     refine ev_drawq [8] mo (rk0 0 rfl (q_fieldAddr ttOk rfl) rfl ?_)
     first | refine rk0 1 rfl (q_load_pr ttOk rfl rfl rfl rfl (get_map om) rfl rfl) rfl ?_ | refine rk0 1 rfl (q_load ttOk rfl) rfl ?_
     refine rk0 2 rfl (q_fieldAddr ttOk rfl) rfl ?_
     first | refine rk0 3 rfl (q_load_pr ttOk rfl rfl rfl rfl (get_map om) rfl rfl) rfl ?_ | refine rk0 3 rfl (q_load ttOk rfl) rfl ?_
     refine rk0 4 rfl (q_fieldAddr ttOk rfl) rfl ?_
     first | refine rk0 5 rfl (q_load_pr ttOk rfl rfl rfl rfl (get_map om) rfl rfl) rfl ?_ | refine rk0 5 rfl (q_load ttOk rfl) rfl ?_
     refine rdk_one 6 kr (rdo_call (nm := 47) rfl trivial (cf rfl) (c_l1Copy _ om) (rs_of rfl) rfl rfl rfl (rk0 7 rfl (q_ix_rt (m := (d.wait[k]'om).1.toNat) ttOk rfl rfl rfl rfl rfl om (by rw [List.length_map]; omega)) rfl (rdk_one 8 kr (rdo_brk rfl rfl trivial (e_st_pr ttOk rfl rfl rfl rfl rfl rfl rfl (get_map om) rfl rfl rfl rfl rfl) (rdb_endq kr (eb (eb (et (ev_pr [1, 2, 3, 6, 7, 8, 9, 10, 15, 16, 17, 18, 19, 20, 21, 22, 23, 24, 25, 26, 27, 28, 29, 30, 31, 32, 33, 34, 35, 36, 37, 38, 39, 40, 41, 42, 43, 44, 45, 46, 47, 48, 49, 50, 51, 52, 53, 54, 55, 56, 57, 58, 59, 60, 61, 62, 63, 64, 65, 66] rfl (rg (xm rfl rfl (xa rfl rfl rfl om rfl (xs rfl rfl (nl (eve_round (k + 1) [] ?hp ⟨trf, trf, ⟨⟨_, rfl, by (first | (exact fall_kept om (by simp_all)) | (exfalso; simp_all; done))⟩, trivial⟩, tre, rfl⟩)))))))))))))))
     case hp => exact ⟨by omega, by omega⟩
    ·try have d7 := of_decide_eq_false h7
     refine sq (rg (xm rfl rfl (xb ttOk rfl rfl (xs rfl rfl (nl (et (ev_cond rfl (fun h8 => ?_) (fun h8 => ?_))))))))
     ·try have d8 := of_decide_eq_true h8
      refine ev_pr [1, 2, 3, 6, 7, 8, 9, 10, 15, 16, 17, 18, 19, 20, 21, 22, 23, 24, 25, 26, 27, 28, 29, 30, 31, 32, 33, 34, 35, 36, 37, 38, 39, 40, 41, 42, 43, 44, 45, 46, 47, 48, 49, 50, 51, 52, 53, 54, 55, 56, 57, 58, 59, 60, 61, 62, 63, 64, 65, 66] rfl (ev_drawq [14] mo (rk0 0 rfl (q_fieldAddr ttOk rfl) rfl ?_))
      first | refine rk0 1 rfl (q_load_pr ttOk rfl rfl rfl rfl (get_map om) rfl rfl) rfl ?_ | refine rk0 1 rfl (q_load ttOk rfl) rfl ?_
      refine rk0 2 rfl (q_fieldAddr ttOk rfl) rfl ?_
      first | refine rk0 3 rfl (q_load_pr ttOk rfl rfl rfl rfl (get_map om) rfl rfl) rfl ?_ | refine rk0 3 rfl (q_load ttOk rfl) rfl ?_
      refine rk0 4 rfl (q_fieldAddr ttOk rfl) rfl ?_
      first | refine rk0 5 rfl (q_load_pr ttOk rfl rfl rfl rfl (get_map om) rfl rfl) rfl ?_ | refine rk0 5 rfl (q_load ttOk rfl) rfl ?_
      refine rk0 6 rfl (q_fieldAddr ttOk rfl) rfl ?_
      first | refine rk0 7 rfl (q_load_pr ttOk rfl rfl rfl rfl (get_map om) rfl rfl) rfl ?_ | refine rk0 7 rfl (q_load ttOk rfl) rfl ?_
      refine rk0 8 rfl (q_fieldAddr ttOk rfl) rfl ?_
      first | refine rk0 9 rfl (q_load_pr ttOk rfl rfl rfl rfl (get_map om) rfl rfl) rfl ?_ | refine rk0 9 rfl (q_load ttOk rfl) rfl ?_
      refine rk0 10 rfl (q_ix_rt (m := (d.wait[k]'om).1.toNat) ttOk rfl rfl rfl rfl rfl om (by rw [List.length_map]; omega)) rfl ?_
      first | refine rk0 11 rfl (q_load_pr ttOk rfl rfl rfl rfl (get_map om) rfl rfl) rfl ?_ | refine rk0 11 rfl (q_load ttOk rfl) rfl ?_
      refine rdk_one 12 kr (rdo_call (nm := 64) rfl trivial (cf rfl) (c_l3Torn (d.wait[k]'om).2 ((fallUp d F all k)[(d.wait[k]'om).1.toNat]'om) ⟨by omega, hrw _ (List.getElem_mem _)⟩) (rs_c_sub rfl rfl rfl (get_map om) rfl) rfl rfl rfl (rk0 13 rfl (q_ix_rt (m := (d.wait[k]'om).1.toNat) ttOk rfl rfl rfl rfl rfl om (by rw [List.length_map]; omega)) rfl (rdk_one 14 kr (rdo_brk rfl rfl trivial (eff_flt 101 (e_st_pr ttOk rfl rfl rfl rfl rfl rfl rfl (get_map om) rfl rfl rfl rfl rfl)) (rdb_endq kr (eb (eb (et (rg (xm rfl rfl (xa rfl rfl rfl om rfl (xs rfl rfl (nl (eve_round (k + 1) [] ?hp ⟨trf, trf, ⟨⟨_, rfl, by (first | (exact fall_torn om (by simp_all) (by simp_all) (by rw [fallUp_len]; omega)) | (exfalso; simp_all; done))⟩, trivial⟩, tre, rfl⟩))))))))))))))
      case hp => exact ⟨by omega, by omega⟩
     ·try have d8 := of_decide_eq_false h8
      refine ev_skip (eb (eb (et (ev_pr [1, 2, 3, 6, 7, 8, 9, 10, 15, 16, 17, 18, 19, 20, 21, 22, 23, 24, 25, 26, 27, 28, 29, 30, 31, 32, 33, 34, 35, 36, 37, 38, 39, 40, 41, 42, 43, 44, 45, 46, 47, 48, 49, 50, 51, 52, 53, 54, 55, 56, 57, 58, 59, 60, 61, 62, 63, 64, 65, 66] rfl (rg (xm rfl rfl (xa rfl rfl rfl om rfl (xs rfl rfl (nl (eve_round (k + 1) [] ?hp ⟨trf, trf, ⟨⟨_, rfl, by (first | (exact fall_lost (by simp_all) (by simp_all)) | (exfalso; simp_all; done))⟩, trivial⟩, tre, rfl⟩))))))))))
      case hp => exact ⟨by omega, by omega⟩
 ·try have d1 := of_decide_eq_false h1
  refine ev_exit (evx_then (evx_then (evx_hit (et (sq (rg ?_))))))
  first | refine xo (q_load_pr ttOk rfl rfl rfl rfl (get_map om) rfl rfl) rfl ?_ | refine xl ttOk rfl rfl ?_
  refine xst ttOk rfl rfl (nl (et (ev_ret (ret_pureN ttOk rfl rfl ?_))))
  obtain rfl : k = d.wait.length := by omega
  simp [RpLe, L2, RcLe]
end Go.Proofs.YtahkjonokeifmaaGreat
