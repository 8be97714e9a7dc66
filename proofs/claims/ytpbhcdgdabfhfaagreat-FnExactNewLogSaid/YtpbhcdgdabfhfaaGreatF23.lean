/- Walks of functions of the program, printed by a program of the prover. -/
import Derived.Test.YtpbhcdgdabfhfaaGreatF22
namespace Go.Proofs.YtpbhcdgdabfhfaaGreat
open Go.ChangeShapes Go.WideShapes Go.ChangeAt Go.RowKit
set_option linter.unusedVariables false
set_option linter.unusedSimpArgs false
set_option maxHeartbeats 1000000
set_option maxRecDepth 100000
attribute [local irreducible] EvL Ev EvE Quiet Eff Pure RDk RDb RDo
theorem rs_c_sub {S : St} {x y : Operand} {c z : C} {r n k j ty : Nat} {l : List (List C)} {cs : List C} (hx : opv S.T x = some (.p false [.c c])) (hy : opv S.T y = some (.p false [.sub r n k j])) (hr : lk S.R r = some (ty, n, l)) (hk : l[k]? = some cs) (hj : cs[j]? = some z) : RsA S [x, y] [(false, [c]), (false, [z])] := ⟨⟨_, hx, rfl, trivial⟩, ⟨_, hy, ⟨ty, l, cs, hr, hk, hj⟩, trivial⟩, trivial⟩
theorem rs_sub_sub {S : St} {x y : Operand} {c z : C} {r n k j ty r2 n2 k2 j2 ty2 : Nat} {l l2 : List (List C)} {cs cs2 : List C} (hx : opv S.T x = some (.p false [.sub r2 n2 k2 j2])) (hr2 : lk S.R r2 = some (ty2, n2, l2)) (hk2 : l2[k2]? = some cs2) (hj2 : cs2[j2]? = some c) (hy : opv S.T y = some (.p false [.sub r n k j])) (hr : lk S.R r = some (ty, n, l)) (hk : l[k]? = some cs) (hj : cs[j]? = some z) : RsA S [x, y] [(false, [c]), (false, [z])] := ⟨⟨_, hx, ⟨ty2, l2, cs2, hr2, hk2, hj2⟩, trivial⟩, ⟨_, hy, ⟨ty, l, cs, hr, hk, hj⟩, trivial⟩, trivial⟩
def tornF (row old : List Int) : List Int := row.take (row.length / 2) ++ old.drop (row.length / 2)
def fallStep (fate : Int) (all : Bool) (K : List (List Int)) (x : Int × List Int) : List (List Int) := if all = true ∨ fate = 1 then K.set x.1.toNat x.2 else if fate = 2 then K.set x.1.toNat (tornF x.2 (K.getD x.1.toNat [])) else K
def fateAt (F : List Int) (k : Nat) : Int := F.getD k 0
def fallUp (d : Disk) (F : List Int) (all : Bool) : Nat → List (List Int)
  | 0 => d.kept
  | k + 1 => fallStep (fateAt F k) all (fallUp d F all k) (d.wait.getD k (0, []))
def fallF (d : Disk) (F : List Int) (all : Bool) : Disk := if diskOk d then ⟨fallUp d F all d.wait.length, []⟩ else zeroD
theorem fall_no {d : Disk} {F : List Int} {all : Bool} (h : diskOk d = false) : fallF d F all = zeroD := by simp [fallF, h]
theorem fall_yes {d : Disk} {F : List Int} {all : Bool} (h : diskOk d = true) : fallF d F all = ⟨fallUp d F all d.wait.length, []⟩ := by simp [fallF, h]
theorem fallUp_len (d : Disk) (F : List Int) (all : Bool) : ∀ k, (fallUp d F all k).length = d.kept.length
  | 0 => rfl
  | k + 1 => by
    have := fallUp_len d F all k
    simp only [fallUp, fallStep]
    split
    · simpa using this
    · split
      · simpa using this
      · exact this
theorem wait_at {d : Disk} (h : diskOk d = true) {k : Nat} (hk : k < d.wait.length) : 0 ≤ d.wait[k].1 ∧ d.wait[k].1 < d.kept.length ∧ d.wait[k].2.length ≤ 48 := by
  have := (diskOk_sizes h).2.2.2.2 _ (List.getElem_mem hk)
  simp only [writeOk, Bool.and_eq_true] at this
  have h2 := hasAt_iff.1 this.1
  exact ⟨h2.1, h2.2, (rowOk_nums this.2).1⟩
theorem fallUp_rows {d : Disk} (h : diskOk d = true) (F : List Int) (all : Bool) : ∀ k, k ≤ d.wait.length → ∀ r ∈ fallUp d F all k, r.length ≤ 48
  | 0, _ => fun r hr => (rowOk_nums ((diskOk_sizes h).2.2.2.1 r hr)).1
  | k + 1, hk => fun r hr => by
    have ih := fallUp_rows h F all k (by omega)
    have hw := wait_at h (k := k) (by omega)
    rw [show fallUp d F all (k + 1) = fallStep (fateAt F k) all (fallUp d F all k) d.wait[k] by simp only [fallUp]; rw [getD_lenW (show k < d.wait.length by omega)]] at hr
    have key : ∀ z : List Int, z.length ≤ 48 → r ∈ (fallUp d F all k).set d.wait[k].1.toNat z → r.length ≤ 48 := fun z hz hm => by
      rcases List.mem_or_eq_of_mem_set hm with h9 | h9
      · exact ih r h9
      · rw [h9]; exact hz
    simp only [fallStep] at hr
    split at hr
    · exact key _ hw.2.2 hr
    · split at hr
      · refine key _ ?_ hr
        have hx : d.wait[k].1.toNat < (fallUp d F all k).length := by rw [fallUp_len]; omega
        rw [getD_len hx]
        have := ih _ (List.getElem_mem hx)
        simp only [tornF, List.length_append, List.length_take, List.length_drop]
        omega
      · exact ih r hr
theorem fall_kept {d : Disk} {F : List Int} {all : Bool} {k : Nat} (hk : k < d.wait.length) (h : all = true ∨ fateAt F k = 1) : ((fallUp d F all k).map fun r => [ints r]).set d.wait[k].1.toNat [ints d.wait[k].2] = (fallUp d F all (k + 1)).map fun r => [ints r] := by
  simp only [fallUp, fallStep, getD_lenW hk]
  rw [if_pos h, List.map_set]
theorem fall_torn {d : Disk} {F : List Int} {all : Bool} {k : Nat} (hk : k < d.wait.length) (h0 : ¬ (all = true ∨ fateAt F k = 1)) (h : fateAt F k = 2) (hx : d.wait[k].1.toNat < (fallUp d F all k).length) : ((fallUp d F all k).map fun r => [ints r]).set d.wait[k].1.toNat [ints (tornF d.wait[k].2 (fallUp d F all k)[d.wait[k].1.toNat])] = (fallUp d F all (k + 1)).map fun r => [ints r] := by
  simp only [fallUp, fallStep, getD_lenW hk]
  rw [if_neg h0, if_pos h, List.map_set, getD_len hx]
theorem fall_lost {d : Disk} {F : List Int} {all : Bool} {k : Nat} (h0 : ¬ (all = true ∨ fateAt F k = 1)) (h : ¬ fateAt F k = 2) : ((fallUp d F all k).map fun r => [ints r]) = (fallUp d F all (k + 1)).map fun r => [ints r] := by
  simp only [fallUp, fallStep]
  rw [if_neg h0, if_neg h]
theorem fate_in {F : List Int} {k : Nat} (hk : k < F.length) : fateAt F k = F[k] := by simp [fateAt, hk]
theorem fate_out {F : List Int} {k : Nat} (hk : ¬ k < F.length) : fateAt F k = 0 := by simp [fateAt, hk]
theorem half_nat (n : Nat) : ((n : Int).tdiv 2) = ((n / 2 : Nat) : Int) := by
  rw [Int.tdiv_eq_ediv_of_nonneg (by omega)]; omega
theorem c_BothWrote' (t : Two) (x : Int) (row : List Int) : Pure Tryz.prog 196 [many (twoC t), one (iC x), one (ints row)] [many' (twoR ((bothWroteF t x row).1)), one' (RC.v (.bool ((bothWroteF t x row).2)))] := by
  refine pure_intro (N := 48) Tryz.func196 rfl rfl rfl rfl (fun H w => ?_)
  (repeat refine sq ?_)
  refine rg ?_
  refine evl_e (e_box rfl rfl rfl rfl) ?_
  refine evl_e (e_alloc ttOk rfl rfl rfl rfl) ?_
  refine xs rfl rfl ?_
  refine nl ?_
  (repeat first | refine et ?_ | refine eb ?_)
  (repeat refine sq ?_)
  refine rg ?_
  refine xl ttOk rfl rfl ?_
  refine evl_call (nm := 15) (cf rfl) (c_TwoOk' t) (rs_of rfl) rfl rfl rfl ?_
  refine xo (q_not rfl) rfl ?_
  refine nl ?_
  (repeat first | refine et ?_ | refine eb ?_)
  (repeat refine sq ?_)
  refine ev_cond_n rfl (fun h1 => ?_) (fun h1 => ?_)
  · (repeat refine sq ?_)
    refine rg ?_
    refine xo (q_build ttOk rfl) rfl ?_
    refine xst ttOk rfl ?_ rfl
    refine xs rfl rfl ?_
    refine nl ?_
    (repeat first | refine et ?_ | refine eb ?_)
    (repeat refine sq ?_)
    refine ev_ret ?_
    (repeat first | refine evr_then ?_ | refine evr_blk ?_)
    refine ret_pureN ttOk rfl rfl ?_
    first
    | (rw [both_no (by assumption)]; simp [RpLe, L2, RcLe, zeroD, zeroT]; done)
    | (rw [both_yes (by assumption) (by assumption) (by assumption) (by assumption)]; simp [RpLe, L2, RcLe]; done)
    | (rw [both_fail (by assumption) (by simp_all; done)]; simp [RpLe, L2, RcLe]; done)
    | (exfalso; simp_all; done)
  · obtain ⟨hka, hkb⟩ := twoOk_both h1
    (repeat refine sq ?_)
    refine ev_skip ?_
    (repeat first | refine et ?_ | refine eb ?_)
    (repeat refine sq ?_)
    cases hcs : canSum row
    · (repeat refine sq ?_)
      refine rg ?_
      refine xm rfl rfl ?_
      refine evl_call (nm := 19) (cf rfl) (c_WithSum_nil row (by assumption)) (rs_of rfl) rfl rfl rfl ?_
      refine xs rfl rfl ?_
      refine nl ?_
      (repeat first | refine et ?_ | refine eb ?_)
      (repeat refine sq ?_)
      refine rg ?_
      refine xm rfl rfl ?_
      first | refine xb ttOk rfl rfl ?_ | refine xo (q_nilv ttOk rfl rfl ⟨_, _, _, rfl, rfl⟩ (by rw [withSum_yes (by assumption)]; simp) rfl rfl) rfl ?_
      refine nl ?_
      (repeat first | refine et ?_ | refine eb ?_)
      (repeat refine sq ?_)
      refine ev_cond_kt rfl (by first | rfl | assumption | exact nt (by assumption) | exact nf (by assumption)) ?_
      (repeat refine sq ?_)
      refine rg ?_
      refine xl ttOk rfl rfl ?_
      refine evl_call (nm := 23) (cf rfl) (c_copyTwo t (by assumption)) (rs_of rfl) rfl rfl rfl ?_
      refine xst ttOk rfl ?_ rfl
      refine xs rfl rfl ?_
      refine nl ?_
      (repeat first | refine et ?_ | refine eb ?_)
      (repeat refine sq ?_)
      refine ev_ret ?_
      (repeat first | refine evr_then ?_ | refine evr_blk ?_)
      refine ret_pureN ttOk rfl rfl ?_
      first
      | (rw [both_no (by assumption)]; simp [RpLe, L2, RcLe, zeroD, zeroT]; done)
      | (rw [both_yes (by assumption) (by assumption) (by assumption) (by assumption)]; simp [RpLe, L2, RcLe]; done)
      | (rw [both_fail (by assumption) (by simp_all; done)]; simp [RpLe, L2, RcLe]; done)
      | (exfalso; simp_all; done)
    · (repeat refine sq ?_)
      refine rg ?_
      refine xm rfl rfl ?_
      refine evl_call (nm := 19) (cf rfl) (c_WithSum' row) (rs_of rfl) rfl rfl rfl ?_
      refine xs rfl rfl ?_
      refine nl ?_
      (repeat first | refine et ?_ | refine eb ?_)
      (repeat refine sq ?_)
      refine rg ?_
      refine xm rfl rfl ?_
      first | refine xb ttOk rfl rfl ?_ | refine xo (q_nilv ttOk rfl rfl ⟨_, _, _, rfl, rfl⟩ (by rw [withSum_yes (by assumption)]; simp) rfl rfl) rfl ?_
      refine nl ?_
      (repeat first | refine et ?_ | refine eb ?_)
      (repeat refine sq ?_)
      refine ev_cond_kf rfl (by first | rfl | assumption | exact nt (by assumption) | exact nf (by assumption)) ?_
      (repeat refine sq ?_)
      refine ev_skip ?_
      (repeat first | refine et ?_ | refine eb ?_)
      (repeat refine sq ?_)
      refine rg ?_
      refine xl ttOk rfl rfl ?_
      refine evl_callv (cf rfl) hands_disks rfl rfl rfl rfl ?_
      refine evl_e (e_alloc ttOk rfl rfl rfl rfl) ?_
      refine xst ttOk rfl ?_ rfl
      refine nl ?_
      (repeat first | refine et ?_ | refine eb ?_)
      (repeat refine sq ?_)
      refine rg ?_
      refine xl ttOk rfl rfl ?_
      refine xm rfl rfl ?_
      refine nl ?_
      (repeat first | refine et ?_ | refine eb ?_)
      (repeat refine sq ?_)
      refine ev_blk ?_
      (repeat refine sq ?_)
      refine ev_rounds 2 ?_
      (repeat refine sq ?_)
      refine rg ?_
      refine xb ttOk rfl rfl ?_
      refine nl ?_
      (repeat first | refine et ?_ | refine eb ?_)
      (repeat refine sq ?_)
      refine ev_cond_kt rfl (by first | rfl | assumption | exact nt (by assumption) | exact nf (by assumption)) ?_
      (repeat refine sq ?_)
      refine ev_skip ?_
      (repeat first | refine et ?_ | refine eb ?_)
      (repeat refine sq ?_)
      refine ev_blk ?_
      (repeat refine sq ?_)
      refine rg ?_
      refine xm rfl rfl ?_
      first | refine xo (q_index 0 ttOk rfl rfl (by omega)) rfl ?_ | refine xo (q_index 1 ttOk rfl rfl (by omega)) rfl ?_
      refine evl_e (e_alloc ttOk rfl rfl rfl rfl) ?_
      refine xs rfl rfl ?_
      refine xst ttOk rfl ?_ rfl
      refine nl ?_
      (repeat first | refine et ?_ | refine eb ?_)
      (repeat refine sq ?_)
      refine rg ?_
      refine xl ttOk rfl rfl ?_
      refine xm rfl rfl ?_
      refine xm rfl rfl ?_
      first | refine evl_call (nm := 35) (cf rfl) (c_Wrote' t.a x (withSumF row)) (rs_of rfl) rfl rfl rfl ?_ | refine evl_call (nm := 35) (cf rfl) (c_Wrote' t.b x (withSumF row)) (rs_of rfl) rfl rfl rfl ?_
      refine xm rfl rfl ?_
      refine xo (q_ext rfl) rfl ?_
      refine xo (q_ext rfl) rfl ?_
      refine evl_e (e_alloc ttOk rfl rfl rfl rfl) ?_
      refine xst ttOk rfl ?_ rfl
      refine xs rfl rfl ?_
      refine nl ?_
      (repeat first | refine et ?_ | refine eb ?_)
      (repeat refine sq ?_)
      refine rg ?_
      refine xm rfl rfl ?_
      refine xo (q_not rfl) rfl ?_
      refine nl ?_
      (repeat first | refine et ?_ | refine eb ?_)
      (repeat refine sq ?_)
      refine ev_cond_n rfl (fun h2 => ?_) (fun h2 => ?_)
      · (repeat refine sq ?_)
        refine rg ?_
        refine xl ttOk rfl rfl ?_
        refine evl_call (nm := 41) (cf rfl) (c_copyTwo t (by assumption)) (rs_of rfl) rfl rfl rfl ?_
        refine xst ttOk rfl ?_ rfl
        refine xs rfl rfl ?_
        refine nl ?_
        (repeat first | refine et ?_ | refine eb ?_)
        (repeat refine sq ?_)
        refine ev_ret ?_
        (repeat first | refine evr_then ?_ | refine evr_blk ?_)
        refine ret_pureN ttOk rfl rfl ?_
        first
        | (rw [both_no (by assumption)]; simp [RpLe, L2, RcLe, zeroD, zeroT]; done)
        | (rw [both_yes (by assumption) (by assumption) (by assumption) (by assumption)]; simp [RpLe, L2, RcLe]; done)
        | (rw [both_fail (by assumption) (by simp_all; done)]; simp [RpLe, L2, RcLe]; done)
        | (exfalso; simp_all; done)
      · (repeat refine sq ?_)
        refine ev_skip ?_
        (repeat first | refine et ?_ | refine eb ?_)
        (repeat refine sq ?_)
        refine rg ?_
        refine xm rfl rfl ?_
        refine xl ttOk rfl rfl ?_
        first | refine xo (q_ix_arr 0 ttOk rfl rfl (by omega)) rfl ?_ | refine xo (q_ix_arr 1 ttOk rfl rfl (by omega)) rfl ?_
        refine xst ttOk rfl ?_ rfl
        refine nl ?_
        (repeat first | refine et ?_ | refine eb ?_)
        (repeat refine sq ?_)
        refine rg ?_
        refine xa rfl rfl rfl (by omega) rfl ?_
        refine xm rfl rfl ?_
        refine nl ?_
        (repeat first | refine et ?_ | refine eb ?_)
        (repeat first | refine et ?_ | refine eb ?_)
        (try refine eve_again ?_)
        refine ev_pr [1, 3, 6, 7, 8, 9, 26, 27] rfl ?_
        refine ev_remB [11, 12] rfl ?_
        (repeat refine sq ?_)
        refine rg ?_
        refine xb ttOk rfl rfl ?_
        refine nl ?_
        (repeat first | refine et ?_ | refine eb ?_)
        (repeat refine sq ?_)
        refine ev_cond_kt rfl (by first | rfl | assumption | exact nt (by assumption) | exact nf (by assumption)) ?_
        (repeat refine sq ?_)
        refine ev_skip ?_
        (repeat first | refine et ?_ | refine eb ?_)
        (repeat refine sq ?_)
        refine ev_blk ?_
        (repeat refine sq ?_)
        refine rg ?_
        refine xm rfl rfl ?_
        first | refine xo (q_index 0 ttOk rfl rfl (by omega)) rfl ?_ | refine xo (q_index 1 ttOk rfl rfl (by omega)) rfl ?_
        refine evl_e (e_alloc ttOk rfl rfl rfl rfl) ?_
        refine xs rfl rfl ?_
        refine xst ttOk rfl ?_ rfl
        refine nl ?_
        (repeat first | refine et ?_ | refine eb ?_)
        (repeat refine sq ?_)
        refine rg ?_
        refine xl ttOk rfl rfl ?_
        refine xm rfl rfl ?_
        refine xm rfl rfl ?_
        first | refine evl_call (nm := 1000035) (cf rfl) (c_Wrote' t.a x (withSumF row)) (rs_of rfl) rfl rfl rfl ?_ | refine evl_call (nm := 1000035) (cf rfl) (c_Wrote' t.b x (withSumF row)) (rs_of rfl) rfl rfl rfl ?_
        refine xm rfl rfl ?_
        refine xo (q_ext rfl) rfl ?_
        refine xo (q_ext rfl) rfl ?_
        refine evl_e (e_alloc ttOk rfl rfl rfl rfl) ?_
        refine xst ttOk rfl ?_ rfl
        refine xs rfl rfl ?_
        refine nl ?_
        (repeat first | refine et ?_ | refine eb ?_)
        (repeat refine sq ?_)
        refine rg ?_
        refine xm rfl rfl ?_
        refine xo (q_not rfl) rfl ?_
        refine nl ?_
        (repeat first | refine et ?_ | refine eb ?_)
        (repeat refine sq ?_)
        refine ev_cond_n rfl (fun h3 => ?_) (fun h3 => ?_)
        · (repeat refine sq ?_)
          refine rg ?_
          refine xl ttOk rfl rfl ?_
          refine evl_call (nm := 1000041) (cf rfl) (c_copyTwo t (by assumption)) (rs_of rfl) rfl rfl rfl ?_
          refine xst ttOk rfl ?_ rfl
          refine xs rfl rfl ?_
          refine nl ?_
          (repeat first | refine et ?_ | refine eb ?_)
          (repeat refine sq ?_)
          refine ev_ret ?_
          (repeat first | refine evr_then ?_ | refine evr_blk ?_)
          refine ret_pureN ttOk rfl rfl ?_
          first
          | (rw [both_no (by assumption)]; simp [RpLe, L2, RcLe, zeroD, zeroT]; done)
          | (rw [both_yes (by assumption) (by assumption) (by assumption) (by assumption)]; simp [RpLe, L2, RcLe]; done)
          | (rw [both_fail (by assumption) (by simp_all; done)]; simp [RpLe, L2, RcLe]; done)
          | (exfalso; simp_all; done)
        · (repeat refine sq ?_)
          refine ev_skip ?_
          (repeat first | refine et ?_ | refine eb ?_)
          (repeat refine sq ?_)
          refine rg ?_
          refine xm rfl rfl ?_
          refine xl ttOk rfl rfl ?_
          first | refine xo (q_ix_arr 0 ttOk rfl rfl (by omega)) rfl ?_ | refine xo (q_ix_arr 1 ttOk rfl rfl (by omega)) rfl ?_
          refine xst ttOk rfl ?_ rfl
          refine nl ?_
          (repeat first | refine et ?_ | refine eb ?_)
          (repeat refine sq ?_)
          refine rg ?_
          refine xa rfl rfl rfl (by omega) rfl ?_
          refine xm rfl rfl ?_
          refine nl ?_
          (repeat first | refine et ?_ | refine eb ?_)
          (repeat first | refine et ?_ | refine eb ?_)
          (try refine eve_again ?_)
          refine ev_pr [1, 3, 6, 7, 8, 9, 26, 27] rfl ?_
          refine ev_remB [11, 12] rfl ?_
          (repeat refine sq ?_)
          refine rg ?_
          refine xb ttOk rfl rfl ?_
          refine nl ?_
          (repeat first | refine et ?_ | refine eb ?_)
          (repeat refine sq ?_)
          refine ev_cond_kf rfl (by first | rfl | assumption | exact nt (by assumption) | exact nf (by assumption)) ?_
          (repeat refine sq ?_)
          refine ev_exit ?_
          (repeat first | refine evx_then ?_ | refine evx_hit ?_ | refine evx_miss rfl ?_)
          (repeat first | refine et ?_ | refine eb ?_)
          (repeat refine sq ?_)
          refine rg ?_
          refine xl ttOk rfl rfl ?_
          refine evl_callv (cf rfl) hands_twoOf rfl rfl rfl rfl ?_
          refine xst ttOk rfl ?_ rfl
          refine xs rfl rfl ?_
          refine nl ?_
          (repeat first | refine et ?_ | refine eb ?_)
          (repeat refine sq ?_)
          refine ev_ret ?_
          (repeat first | refine evr_then ?_ | refine evr_blk ?_)
          refine ret_pureN ttOk rfl rfl ?_
          first
          | (rw [both_no (by assumption)]; simp [RpLe, L2, RcLe, zeroD, zeroT]; done)
          | (rw [both_yes (by assumption) (by assumption) (by assumption) (by assumption)]; simp [RpLe, L2, RcLe]; done)
          | (rw [both_fail (by assumption) (by simp_all; done)]; simp [RpLe, L2, RcLe]; done)
          | (exfalso; simp_all; done)

end Go.Proofs.YtpbhcdgdabfhfaaGreat
