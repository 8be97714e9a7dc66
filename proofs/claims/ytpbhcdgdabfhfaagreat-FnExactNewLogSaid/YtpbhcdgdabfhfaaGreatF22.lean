/- Walks of functions of the program, printed by a program of the prover. -/
import Derived.Test.YtpbhcdgdabfhfaaGreatF21
import Derived.Test.YtpbhcdgdabfhfaaGreatVP
namespace Go.Proofs.YtpbhcdgdabfhfaaGreat
open Go.ChangeShapes Go.WideShapes Go.ChangeAt Go.RowKit
set_option linter.unusedVariables false
set_option linter.unusedSimpArgs false
set_option maxHeartbeats 1000000
set_option maxRecDepth 100000
attribute [local irreducible] EvL Ev EvE Quiet Eff Pure RDk RDb RDo
def zeroD : Disk := ⟨[], []⟩
def zeroT : Two := ⟨zeroD, zeroD⟩
def wroteOk (d : Disk) (x : Int) (row : List Int) : Bool := hasAt d x && (rowOk row && decide (d.wait.length < 60))
theorem wroteOk1 {d : Disk} {x : Int} {row : List Int} (h : hasAt d x = false) : wroteOk d x row = false := by simp [wroteOk, h]
theorem wroteOk2 {d : Disk} {x : Int} {row : List Int} (h : rowOk row = false) : wroteOk d x row = false := by simp [wroteOk, h]
theorem wroteOk3 {d : Disk} {x : Int} {row : List Int} (h : 60 ≤ d.wait.length) : wroteOk d x row = false := by
  have : ¬ d.wait.length < 60 := by omega
  simp [wroteOk, this]
def wroteF (d : Disk) (x : Int) (row : List Int) : Disk × Bool := if diskOk d then if wroteOk d x row then (⟨d.kept, d.wait ++ [(x, row)]⟩, true) else (d, false) else (zeroD, false)
theorem wrote_no {d : Disk} {x : Int} {row : List Int} (h : diskOk d = false) : wroteF d x row = (zeroD, false) := by simp [wroteF, h]
theorem wrote_fail {d : Disk} {x : Int} {row : List Int} (h : diskOk d = true) (h2 : wroteOk d x row = false) : wroteF d x row = (d, false) := by simp [wroteF, h, h2]
theorem wrote_yes {d : Disk} {x : Int} {row : List Int} (h : diskOk d = true) (h2 : wroteOk d x row = true) : wroteF d x row = (⟨d.kept, d.wait ++ [(x, row)]⟩, true) := by simp [wroteF, h, h2]
def bothWroteF (t : Two) (x : Int) (row : List Int) : Two × Bool := if twoOk t then if canSum row && ((wroteF t.a x (withSumF row)).2 && (wroteF t.b x (withSumF row)).2) then (⟨(wroteF t.a x (withSumF row)).1, (wroteF t.b x (withSumF row)).1⟩, true) else (t, false) else (zeroT, false)
theorem both_no {t : Two} {x : Int} {row : List Int} (h : twoOk t = false) : bothWroteF t x row = (zeroT, false) := by simp [bothWroteF, h]
theorem both_fail {t : Two} {x : Int} {row : List Int} (h : twoOk t = true) (h2 : (canSum row && ((wroteF t.a x (withSumF row)).2 && (wroteF t.b x (withSumF row)).2)) = false) : bothWroteF t x row = (t, false) := by simp only [bothWroteF, h, h2]; rfl
theorem both_yes {t : Two} {x : Int} {row : List Int} (h : twoOk t = true) (h1 : canSum row = true) (h2 : (wroteF t.a x (withSumF row)).2 = true) (h3 : (wroteF t.b x (withSumF row)).2 = true) : bothWroteF t x row = (⟨(wroteF t.a x (withSumF row)).1, (wroteF t.b x (withSumF row)).1⟩, true) := by simp [bothWroteF, h, h1, h2, h3]
theorem withSum_len {l : List Int} : (withSumF l).length ≤ 48 ∧ ((withSumF l).length = 0 ↔ canSum l = false) := by
  unfold withSumF
  split
  · rename_i h
    have := h
    simp only [canSum, Bool.and_eq_true, decide_eq_true_eq] at this
    exact ⟨by simp; omega, by simp [h]⟩
  · rename_i h
    exact ⟨by simp, by simp [h]⟩
def newDiskF (n : Int) : Disk := if 1 ≤ n ∧ n ≤ 40 then ⟨List.replicate n.toNat [], []⟩ else zeroD
def newTwoF (n : Int) : Two := ⟨newDiskF n, newDiskF n⟩
theorem c_Wrote (d : Disk) (x : Int) (row : List Int) : Pure Tryz.prog 237 [many (diskC d), one (iC x), one (ints row)] [many' (diskR ((wroteF d x row).1)), one' (RC.v (.bool ((wroteF d x row).2)))] := by
  refine pure_intro (N := 41) Tryz.func237 rfl rfl rfl rfl (fun H w => ?_)
  (repeat refine sq ?_)
  refine rg ?_
  refine evl_e (e_box rfl rfl rfl rfl) ?_
  refine evl_e (e_alloc ttOk rfl rfl rfl rfl) ?_
  refine xs rfl rfl ?_
  refine nl ?_
  (repeat first | refine et ?_ | refine eb ?_)
  (repeat refine sq ?_)
  refine rg ?_
  refine xl ttOk rfl rfl ?_
  refine evl_call (nm := 10) (cf rfl) (c_DiskOk d) (rs_of rfl) rfl rfl rfl ?_
  refine xo (q_not rfl) rfl ?_
  refine nl ?_
  (repeat first | refine et ?_ | refine eb ?_)
  (repeat refine sq ?_)
  refine ev_cond_n rfl (fun h1 => ?_) (fun h1 => ?_)
  · try have d1 := of_decide_eq_false h1
    (repeat refine sq ?_)
    refine rg ?_
    refine xo (q_build ttOk rfl) rfl ?_
    refine xst ttOk rfl ?_ rfl
    refine xs rfl rfl ?_
    refine nl ?_
    (repeat first | refine et ?_ | refine eb ?_)
    (repeat refine sq ?_)
    refine ev_ret ?_
    (repeat first | refine evr_then ?_ | refine evr_blk ?_)
    refine ret_pureN ttOk rfl rfl ?_
    first
    | (rw [wrote_no (by assumption)]; simp [RpLe, L2, RcLe, zeroD]; done)
    | (rw [wrote_fail (by assumption) (wroteOk1 (by assumption))]; simp [RpLe, L2, RcLe]; done)
    | (rw [wrote_fail (by assumption) (wroteOk2 (by assumption))]; simp [RpLe, L2, RcLe]; done)
    | (rw [wrote_fail (by assumption) (wroteOk3 (by omega))]; simp [RpLe, L2, RcLe]; done)
    | (rw [wrote_yes (by assumption) (by simp only [wroteOk, Bool.and_eq_true, decide_eq_true_eq]; exact ⟨by assumption, by assumption, by omega⟩)]; simp [RpLe, L2, RcLe]; done)
  · try have d1 := of_decide_eq_true h1
    have hs := diskOk_sizes h1
    (repeat refine sq ?_)
    refine ev_skip ?_
    (repeat first | refine et ?_ | refine eb ?_)
    (repeat refine sq ?_)
    refine rg ?_
    refine xl ttOk rfl rfl ?_
    refine evl_call (nm := 14) (cf rfl) (c_l3Copy d (by assumption)) (rs_of rfl) rfl rfl rfl ?_
    refine evl_e (e_alloc ttOk rfl rfl rfl rfl) ?_
    refine xst ttOk rfl ?_ rfl
    refine nl ?_
    (repeat first | refine et ?_ | refine eb ?_)
    (repeat refine sq ?_)
    refine rg ?_
    refine xl ttOk rfl rfl ?_
    refine xm rfl rfl ?_
    refine evl_call (nm := 17) (cf rfl) (c_l3Has d _) (rs_of rfl) rfl rfl rfl ?_
    refine xo (q_not rfl) rfl ?_
    refine xm rfl rfl ?_
    refine evl_partn rfl rfl (fun h2 => ?_) (fun h2 => ?_)
    · try have d2 := of_decide_eq_false h2
      refine gn (nt h2) rfl rfl rfl ?_
      refine gn (nt h2) rfl rfl rfl ?_
      refine gn (nt h2) rfl rfl rfl ?_
      refine xo (q_pick_t rfl (nt h2) rfl) rfl ?_
      refine xm rfl rfl ?_
      refine gn rfl rfl rfl rfl ?_
      refine gn rfl rfl rfl rfl ?_
      refine gn rfl rfl rfl rfl ?_
      refine gn rfl rfl rfl rfl ?_
      refine xo (q_pick_t rfl rfl rfl) rfl ?_
      refine nl ?_
      (repeat first | refine et ?_ | refine eb ?_)
      (repeat refine sq ?_)
      refine ev_cond_kt rfl rfl ?_
      (repeat refine sq ?_)
      refine rg ?_
      refine xl ttOk rfl rfl ?_
      refine xst ttOk rfl ?_ rfl
      refine xs rfl rfl ?_
      refine nl ?_
      (repeat first | refine et ?_ | refine eb ?_)
      (repeat refine sq ?_)
      refine ev_ret ?_
      (repeat first | refine evr_then ?_ | refine evr_blk ?_)
      refine ret_pureN ttOk rfl rfl ?_
      first
      | (rw [wrote_no (by assumption)]; simp [RpLe, L2, RcLe, zeroD]; done)
      | (rw [wrote_fail (by assumption) (wroteOk1 (by assumption))]; simp [RpLe, L2, RcLe]; done)
      | (rw [wrote_fail (by assumption) (wroteOk2 (by assumption))]; simp [RpLe, L2, RcLe]; done)
      | (rw [wrote_fail (by assumption) (wroteOk3 (by omega))]; simp [RpLe, L2, RcLe]; done)
      | (rw [wrote_yes (by assumption) (by simp only [wroteOk, Bool.and_eq_true, decide_eq_true_eq]; exact ⟨by assumption, by assumption, by omega⟩)]; simp [RpLe, L2, RcLe]; done)
    · try have d2 := of_decide_eq_true h2
      refine gm (nf h2) rfl rfl rfl rfl ?_
      refine evl_callg rfl rfl (nf h2) (nm := 21) (cf rfl) (c_RowOk _) (rs_of rfl) rfl rfl rfl ?_
      refine go (nf h2) rfl rfl (q_not rfl) rfl ?_
      refine xo (q_pick_f rfl (nf h2) rfl) rfl ?_
      refine xm rfl rfl ?_
      refine evl_partn rfl rfl (fun h3 => ?_) (fun h3 => ?_)
      · try have d3 := of_decide_eq_false h3
        refine gn (nt h3) rfl rfl rfl ?_
        refine gn (nt h3) rfl rfl rfl ?_
        refine gn (nt h3) rfl rfl rfl ?_
        refine gn (nt h3) rfl rfl rfl ?_
        refine xo (q_pick_t rfl (nt h3) rfl) rfl ?_
        refine nl ?_
        (repeat first | refine et ?_ | refine eb ?_)
        (repeat refine sq ?_)
        refine ev_cond_kt rfl rfl ?_
        (repeat refine sq ?_)
        refine rg ?_
        refine xl ttOk rfl rfl ?_
        refine xst ttOk rfl ?_ rfl
        refine xs rfl rfl ?_
        refine nl ?_
        (repeat first | refine et ?_ | refine eb ?_)
        (repeat refine sq ?_)
        refine ev_ret ?_
        (repeat first | refine evr_then ?_ | refine evr_blk ?_)
        refine ret_pureN ttOk rfl rfl ?_
        first
        | (rw [wrote_no (by assumption)]; simp [RpLe, L2, RcLe, zeroD]; done)
        | (rw [wrote_fail (by assumption) (wroteOk1 (by assumption))]; simp [RpLe, L2, RcLe]; done)
        | (rw [wrote_fail (by assumption) (wroteOk2 (by assumption))]; simp [RpLe, L2, RcLe]; done)
        | (rw [wrote_fail (by assumption) (wroteOk3 (by omega))]; simp [RpLe, L2, RcLe]; done)
        | (rw [wrote_yes (by assumption) (by simp only [wroteOk, Bool.and_eq_true, decide_eq_true_eq]; exact ⟨by assumption, by assumption, by omega⟩)]; simp [RpLe, L2, RcLe]; done)
      · try have d3 := of_decide_eq_true h3
        have hr := (rowOk_nums h3).1
        refine go (nf h3) rfl rfl (q_fieldAddr ttOk rfl) rfl ?_
        refine go (nf h3) rfl rfl (q_load ttOk rfl) rfl ?_
        refine go (nf h3) rfl rfl (q_len_map ttOk rfl rfl) rfl ?_
        refine go (nf h3) rfl rfl (q_bin ttOk rfl) rfl ?_
        refine xo (q_pick_f rfl (nf h3) rfl) rfl ?_
        refine nl ?_
        (repeat first | refine et ?_ | refine eb ?_)
        (repeat refine sq ?_)
        refine ev_cond rfl (fun h4 => ?_) (fun h4 => ?_)
        · try have d4 := of_decide_eq_true h4
          (repeat refine sq ?_)
          refine rg ?_
          refine xl ttOk rfl rfl ?_
          refine xst ttOk rfl ?_ rfl
          refine xs rfl rfl ?_
          refine nl ?_
          (repeat first | refine et ?_ | refine eb ?_)
          (repeat refine sq ?_)
          refine ev_ret ?_
          (repeat first | refine evr_then ?_ | refine evr_blk ?_)
          refine ret_pureN ttOk rfl rfl ?_
          first
          | (rw [wrote_no (by assumption)]; simp [RpLe, L2, RcLe, zeroD]; done)
          | (rw [wrote_fail (by assumption) (wroteOk1 (by assumption))]; simp [RpLe, L2, RcLe]; done)
          | (rw [wrote_fail (by assumption) (wroteOk2 (by assumption))]; simp [RpLe, L2, RcLe]; done)
          | (rw [wrote_fail (by assumption) (wroteOk3 (by omega))]; simp [RpLe, L2, RcLe]; done)
          | (rw [wrote_yes (by assumption) (by simp only [wroteOk, Bool.and_eq_true, decide_eq_true_eq]; exact ⟨by assumption, by assumption, by omega⟩)]; simp [RpLe, L2, RcLe]; done)
        · try have d4 := of_decide_eq_false h4
          (repeat refine sq ?_)
          refine ev_skip ?_
          (repeat first | refine et ?_ | refine eb ?_)
          (repeat refine sq ?_)
          refine ev_drawq [7, 9] mo ?_
          refine rdk_take 0 rfl (by kernel_rfl) trivial (q_fieldAddr ttOk rfl) rfl ?_
          refine rdk_take 1 rfl (by kernel_rfl) trivial (q_load ttOk rfl) rfl ?_
          refine rdk_take 2 rfl (by kernel_rfl) trivial (q_move rfl) rfl ?_
          refine rdk_take 3 rfl (by kernel_rfl) trivial (q_move rfl) rfl ?_
          refine rdk_one 4 (by kernel_rfl) ?_
          refine rdo_call (nm := 35) rfl trivial (cf rfl) (c_l1Copy _ (by omega)) (rs_of rfl) rfl rfl rfl ?_
          refine rdk_take 5 rfl (by kernel_rfl) trivial (q_build ttOk rfl) rfl ?_
          refine rdk_one 6 (by kernel_rfl) ?_
          refine rdo_new rfl trivial (e_lit ttOk rfl rfl rfl) ?_
          refine rdk_one 7 (by kernel_rfl) ?_
          refine rdo_brk rfl rfl trivial (e_app ttOk rfl rfl rfl rfl rfl rfl rfl (by simp; omega) rfl rfl) ?_
          refine rdb_q 8 rfl (by kernel_rfl) trivial (q_fieldAddr ttOk rfl) rfl ?_
          refine rdb_eff 9 rfl (by kernel_rfl) trivial (e_store ttOk rfl) ?_
          refine rdb_endq (by kernel_rfl) ?_
          (repeat first | refine et ?_ | refine eb ?_)
          (repeat refine sq ?_)
          refine ev_pr [6, 7, 8, 40] rfl ?_
          refine rg ?_
          refine xl ttOk rfl rfl ?_
          refine xst ttOk rfl ?_ rfl
          refine xs rfl rfl ?_
          refine nl ?_
          (repeat first | refine et ?_ | refine eb ?_)
          (repeat refine sq ?_)
          refine ev_ret ?_
          (repeat first | refine evr_then ?_ | refine evr_blk ?_)
          refine ret_pureN ttOk rfl rfl ?_
          first
          | (rw [wrote_no (by assumption)]; simp [RpLe, L2, RcLe, zeroD]; done)
          | (rw [wrote_fail (by assumption) (wroteOk1 (by assumption))]; simp [RpLe, L2, RcLe]; done)
          | (rw [wrote_fail (by assumption) (wroteOk2 (by assumption))]; simp [RpLe, L2, RcLe]; done)
          | (rw [wrote_fail (by assumption) (wroteOk3 (by omega))]; simp [RpLe, L2, RcLe]; done)
          | (rw [wrote_yes (by assumption) (by simp only [wroteOk, Bool.and_eq_true, decide_eq_true_eq]; exact ⟨by assumption, by assumption, by omega⟩)]; simp [RpLe, L2, RcLe]; done)
theorem c_Wrote' (d : Disk) (x : Int) (row : List Int) : Pure Tryz.prog 240 [many (diskC d), one (iC x), one (ints row)] [many' (diskR ((wroteF d x row).1)), one' (RC.v (.bool ((wroteF d x row).2)))] := by
  refine pure_intro (N := 41) Tryz.func240 rfl rfl rfl rfl (fun H w => ?_)
  (repeat refine sq ?_)
  refine rg ?_
  refine evl_e (e_box rfl rfl rfl rfl) ?_
  refine evl_e (e_alloc ttOk rfl rfl rfl rfl) ?_
  refine xs rfl rfl ?_
  refine nl ?_
  (repeat first | refine et ?_ | refine eb ?_)
  (repeat refine sq ?_)
  refine rg ?_
  refine xl ttOk rfl rfl ?_
  refine evl_call (nm := 10) (cf rfl) (c_DiskOk' d) (rs_of rfl) rfl rfl rfl ?_
  refine xo (q_not rfl) rfl ?_
  refine nl ?_
  (repeat first | refine et ?_ | refine eb ?_)
  (repeat refine sq ?_)
  refine ev_cond_n rfl (fun h1 => ?_) (fun h1 => ?_)
  · try have d1 := of_decide_eq_false h1
    (repeat refine sq ?_)
    refine rg ?_
    refine xo (q_build ttOk rfl) rfl ?_
    refine xst ttOk rfl ?_ rfl
    refine xs rfl rfl ?_
    refine nl ?_
    (repeat first | refine et ?_ | refine eb ?_)
    (repeat refine sq ?_)
    refine ev_ret ?_
    (repeat first | refine evr_then ?_ | refine evr_blk ?_)
    refine ret_pureN ttOk rfl rfl ?_
    first
    | (rw [wrote_no (by assumption)]; simp [RpLe, L2, RcLe, zeroD]; done)
    | (rw [wrote_fail (by assumption) (wroteOk1 (by assumption))]; simp [RpLe, L2, RcLe]; done)
    | (rw [wrote_fail (by assumption) (wroteOk2 (by assumption))]; simp [RpLe, L2, RcLe]; done)
    | (rw [wrote_fail (by assumption) (wroteOk3 (by omega))]; simp [RpLe, L2, RcLe]; done)
    | (rw [wrote_yes (by assumption) (by simp only [wroteOk, Bool.and_eq_true, decide_eq_true_eq]; exact ⟨by assumption, by assumption, by omega⟩)]; simp [RpLe, L2, RcLe]; done)
  · try have d1 := of_decide_eq_true h1
    have hs := diskOk_sizes h1
    (repeat refine sq ?_)
    refine ev_skip ?_
    (repeat first | refine et ?_ | refine eb ?_)
    (repeat refine sq ?_)
    refine rg ?_
    refine xl ttOk rfl rfl ?_
    refine evl_call (nm := 14) (cf rfl) (c_copyDisk d (by assumption)) (rs_of rfl) rfl rfl rfl ?_
    refine evl_e (e_alloc ttOk rfl rfl rfl rfl) ?_
    refine xst ttOk rfl ?_ rfl
    refine nl ?_
    (repeat first | refine et ?_ | refine eb ?_)
    (repeat refine sq ?_)
    refine rg ?_
    refine xl ttOk rfl rfl ?_
    refine xm rfl rfl ?_
    refine evl_call (nm := 17) (cf rfl) (c_sectorOk d _) (rs_of rfl) rfl rfl rfl ?_
    refine xo (q_not rfl) rfl ?_
    refine xm rfl rfl ?_
    refine evl_partn rfl rfl (fun h2 => ?_) (fun h2 => ?_)
    · try have d2 := of_decide_eq_false h2
      refine gn (nt h2) rfl rfl rfl ?_
      refine gn (nt h2) rfl rfl rfl ?_
      refine gn (nt h2) rfl rfl rfl ?_
      refine xo (q_pick_t rfl (nt h2) rfl) rfl ?_
      refine xm rfl rfl ?_
      refine gn rfl rfl rfl rfl ?_
      refine gn rfl rfl rfl rfl ?_
      refine gn rfl rfl rfl rfl ?_
      refine gn rfl rfl rfl rfl ?_
      refine xo (q_pick_t rfl rfl rfl) rfl ?_
      refine nl ?_
      (repeat first | refine et ?_ | refine eb ?_)
      (repeat refine sq ?_)
      refine ev_cond_kt rfl rfl ?_
      (repeat refine sq ?_)
      refine rg ?_
      refine xl ttOk rfl rfl ?_
      refine xst ttOk rfl ?_ rfl
      refine xs rfl rfl ?_
      refine nl ?_
      (repeat first | refine et ?_ | refine eb ?_)
      (repeat refine sq ?_)
      refine ev_ret ?_
      (repeat first | refine evr_then ?_ | refine evr_blk ?_)
      refine ret_pureN ttOk rfl rfl ?_
      first
      | (rw [wrote_no (by assumption)]; simp [RpLe, L2, RcLe, zeroD]; done)
      | (rw [wrote_fail (by assumption) (wroteOk1 (by assumption))]; simp [RpLe, L2, RcLe]; done)
      | (rw [wrote_fail (by assumption) (wroteOk2 (by assumption))]; simp [RpLe, L2, RcLe]; done)
      | (rw [wrote_fail (by assumption) (wroteOk3 (by omega))]; simp [RpLe, L2, RcLe]; done)
      | (rw [wrote_yes (by assumption) (by simp only [wroteOk, Bool.and_eq_true, decide_eq_true_eq]; exact ⟨by assumption, by assumption, by omega⟩)]; simp [RpLe, L2, RcLe]; done)
    · try have d2 := of_decide_eq_true h2
      refine gm (nf h2) rfl rfl rfl rfl ?_
      refine evl_callg rfl rfl (nf h2) (nm := 21) (cf rfl) (c_RowOk' _) (rs_of rfl) rfl rfl rfl ?_
      refine go (nf h2) rfl rfl (q_not rfl) rfl ?_
      refine xo (q_pick_f rfl (nf h2) rfl) rfl ?_
      refine xm rfl rfl ?_
      refine evl_partn rfl rfl (fun h3 => ?_) (fun h3 => ?_)
      · try have d3 := of_decide_eq_false h3
        refine gn (nt h3) rfl rfl rfl ?_
        refine gn (nt h3) rfl rfl rfl ?_
        refine gn (nt h3) rfl rfl rfl ?_
        refine gn (nt h3) rfl rfl rfl ?_
        refine xo (q_pick_t rfl (nt h3) rfl) rfl ?_
        refine nl ?_
        (repeat first | refine et ?_ | refine eb ?_)
        (repeat refine sq ?_)
        refine ev_cond_kt rfl rfl ?_
        (repeat refine sq ?_)
        refine rg ?_
        refine xl ttOk rfl rfl ?_
        refine xst ttOk rfl ?_ rfl
        refine xs rfl rfl ?_
        refine nl ?_
        (repeat first | refine et ?_ | refine eb ?_)
        (repeat refine sq ?_)
        refine ev_ret ?_
        (repeat first | refine evr_then ?_ | refine evr_blk ?_)
        refine ret_pureN ttOk rfl rfl ?_
        first
        | (rw [wrote_no (by assumption)]; simp [RpLe, L2, RcLe, zeroD]; done)
        | (rw [wrote_fail (by assumption) (wroteOk1 (by assumption))]; simp [RpLe, L2, RcLe]; done)
        | (rw [wrote_fail (by assumption) (wroteOk2 (by assumption))]; simp [RpLe, L2, RcLe]; done)
        | (rw [wrote_fail (by assumption) (wroteOk3 (by omega))]; simp [RpLe, L2, RcLe]; done)
        | (rw [wrote_yes (by assumption) (by simp only [wroteOk, Bool.and_eq_true, decide_eq_true_eq]; exact ⟨by assumption, by assumption, by omega⟩)]; simp [RpLe, L2, RcLe]; done)
      · try have d3 := of_decide_eq_true h3
        have hr := (rowOk_nums h3).1
        refine go (nf h3) rfl rfl (q_fieldAddr ttOk rfl) rfl ?_
        refine go (nf h3) rfl rfl (q_load ttOk rfl) rfl ?_
        refine go (nf h3) rfl rfl (q_len_map ttOk rfl rfl) rfl ?_
        refine go (nf h3) rfl rfl (q_bin ttOk rfl) rfl ?_
        refine xo (q_pick_f rfl (nf h3) rfl) rfl ?_
        refine nl ?_
        (repeat first | refine et ?_ | refine eb ?_)
        (repeat refine sq ?_)
        refine ev_cond rfl (fun h4 => ?_) (fun h4 => ?_)
        · try have d4 := of_decide_eq_true h4
          (repeat refine sq ?_)
          refine rg ?_
          refine xl ttOk rfl rfl ?_
          refine xst ttOk rfl ?_ rfl
          refine xs rfl rfl ?_
          refine nl ?_
          (repeat first | refine et ?_ | refine eb ?_)
          (repeat refine sq ?_)
          refine ev_ret ?_
          (repeat first | refine evr_then ?_ | refine evr_blk ?_)
          refine ret_pureN ttOk rfl rfl ?_
          first
          | (rw [wrote_no (by assumption)]; simp [RpLe, L2, RcLe, zeroD]; done)
          | (rw [wrote_fail (by assumption) (wroteOk1 (by assumption))]; simp [RpLe, L2, RcLe]; done)
          | (rw [wrote_fail (by assumption) (wroteOk2 (by assumption))]; simp [RpLe, L2, RcLe]; done)
          | (rw [wrote_fail (by assumption) (wroteOk3 (by omega))]; simp [RpLe, L2, RcLe]; done)
          | (rw [wrote_yes (by assumption) (by simp only [wroteOk, Bool.and_eq_true, decide_eq_true_eq]; exact ⟨by assumption, by assumption, by omega⟩)]; simp [RpLe, L2, RcLe]; done)
        · try have d4 := of_decide_eq_false h4
          (repeat refine sq ?_)
          refine ev_skip ?_
          (repeat first | refine et ?_ | refine eb ?_)
          (repeat refine sq ?_)
          refine ev_drawq [7, 9] mo ?_
          refine rdk_take 0 rfl (by kernel_rfl) trivial (q_fieldAddr ttOk rfl) rfl ?_
          refine rdk_take 1 rfl (by kernel_rfl) trivial (q_load ttOk rfl) rfl ?_
          refine rdk_take 2 rfl (by kernel_rfl) trivial (q_move rfl) rfl ?_
          refine rdk_take 3 rfl (by kernel_rfl) trivial (q_move rfl) rfl ?_
          refine rdk_one 4 (by kernel_rfl) ?_
          refine rdo_call (nm := 35) rfl trivial (cf rfl) (c_copyRow _ (by omega)) (rs_of rfl) rfl rfl rfl ?_
          refine rdk_take 5 rfl (by kernel_rfl) trivial (q_build ttOk rfl) rfl ?_
          refine rdk_one 6 (by kernel_rfl) ?_
          refine rdo_new rfl trivial (e_lit ttOk rfl rfl rfl) ?_
          refine rdk_one 7 (by kernel_rfl) ?_
          refine rdo_brk rfl rfl trivial (e_app ttOk rfl rfl rfl rfl rfl rfl rfl (by simp; omega) rfl rfl) ?_
          refine rdb_q 8 rfl (by kernel_rfl) trivial (q_fieldAddr ttOk rfl) rfl ?_
          refine rdb_eff 9 rfl (by kernel_rfl) trivial (e_store ttOk rfl) ?_
          refine rdb_endq (by kernel_rfl) ?_
          (repeat first | refine et ?_ | refine eb ?_)
          (repeat refine sq ?_)
          refine ev_pr [6, 7, 8, 40] rfl ?_
          refine rg ?_
          refine xl ttOk rfl rfl ?_
          refine xst ttOk rfl ?_ rfl
          refine xs rfl rfl ?_
          refine nl ?_
          (repeat first | refine et ?_ | refine eb ?_)
          (repeat refine sq ?_)
          refine ev_ret ?_
          (repeat first | refine evr_then ?_ | refine evr_blk ?_)
          refine ret_pureN ttOk rfl rfl ?_
          first
          | (rw [wrote_no (by assumption)]; simp [RpLe, L2, RcLe, zeroD]; done)
          | (rw [wrote_fail (by assumption) (wroteOk1 (by assumption))]; simp [RpLe, L2, RcLe]; done)
          | (rw [wrote_fail (by assumption) (wroteOk2 (by assumption))]; simp [RpLe, L2, RcLe]; done)
          | (rw [wrote_fail (by assumption) (wroteOk3 (by omega))]; simp [RpLe, L2, RcLe]; done)
          | (rw [wrote_yes (by assumption) (by simp only [wroteOk, Bool.and_eq_true, decide_eq_true_eq]; exact ⟨by assumption, by assumption, by omega⟩)]; simp [RpLe, L2, RcLe]; done)
theorem c_NewDisk (x : Int) : Pure Tryz.prog 204 [one (iC x)] [many' (diskR (newDiskF x))] := by
  refine pure_intro (N := 10) Tryz.func204 rfl rfl rfl rfl (fun H w => ?_)
  (repeat refine sq ?_)
  refine rg ?_
  refine evl_e (e_alloc ttOk rfl rfl rfl rfl) ?_
  refine nl ?_
  (repeat first | refine et ?_ | refine eb ?_)
  (repeat refine sq ?_)
  refine rg ?_
  refine xm rfl rfl ?_
  refine evl_call (nm := 4) (cf rfl) (c_l1In _ _ _) (rs_of rfl) rfl rfl rfl ?_
  refine xo (q_not rfl) rfl ?_
  refine nl ?_
  (repeat first | refine et ?_ | refine eb ?_)
  (repeat refine sq ?_)
  refine ev_cond_n rfl (fun h1 => ?_) (fun h1 => ?_)
  · have hx : ¬ (1 ≤ x ∧ x ≤ 40) := by simpa [inB] using h1
    (repeat refine sq ?_)
    refine rg ?_
    refine xo (q_build ttOk rfl) rfl ?_
    refine xst ttOk rfl ?_ rfl
    refine nl ?_
    (repeat first | refine et ?_ | refine eb ?_)
    (repeat refine sq ?_)
    refine ev_ret ?_
    (repeat first | refine evr_then ?_ | refine evr_blk ?_)
    refine ret_pureN ttOk rfl rfl ?_
    rw [show newDiskF x = zeroD by simp only [newDiskF]; rw [if_neg hx]]; simp [RpLe, L2, RcLe, zeroD]
  · have hx : 1 ≤ x ∧ x ≤ 40 := by simpa [inB] using h1
    (repeat refine sq ?_)
    refine ev_skip ?_
    (repeat first | refine et ?_ | refine eb ?_)
    (repeat refine sq ?_)
    refine rg ?_
    refine xm rfl rfl ?_
    refine evl_e (e_make (m := x.toNat) ttOk rfl rfl rfl rfl rfl (by omega) (by omega) (by omega) rfl rfl) ?_
    refine xo (q_build ttOk rfl) rfl ?_
    refine xst ttOk rfl ?_ rfl
    refine nl ?_
    (repeat first | refine et ?_ | refine eb ?_)
    refine ev_nils (r := 8) (m := 1) (l' := (List.replicate x.toNat ([] : List Int)).map fun r => [ints r]) rfl (by simp [nilTo]) rfl ?_
    (repeat refine sq ?_)
    refine ev_ret ?_
    (repeat first | refine evr_then ?_ | refine evr_blk ?_)
    refine ret_pureN ttOk rfl rfl ?_
    rw [show newDiskF x = ⟨List.replicate x.toNat [], []⟩ by simp only [newDiskF]; rw [if_pos hx]]; simp [RpLe, L2, RcLe]
theorem c_NewDisk' (x : Int) : Pure Tryz.prog 205 [one (iC x)] [many' (diskR (newDiskF x))] := by
  refine pure_intro (N := 10) Tryz.func205 rfl rfl rfl rfl (fun H w => ?_)
  (repeat refine sq ?_)
  refine rg ?_
  refine evl_e (e_alloc ttOk rfl rfl rfl rfl) ?_
  refine nl ?_
  (repeat first | refine et ?_ | refine eb ?_)
  (repeat refine sq ?_)
  refine rg ?_
  refine xm rfl rfl ?_
  refine evl_call (nm := 4) (cf rfl) (c_between _ _ _) (rs_of rfl) rfl rfl rfl ?_
  refine xo (q_not rfl) rfl ?_
  refine nl ?_
  (repeat first | refine et ?_ | refine eb ?_)
  (repeat refine sq ?_)
  refine ev_cond_n rfl (fun h1 => ?_) (fun h1 => ?_)
  · have hx : ¬ (1 ≤ x ∧ x ≤ 40) := by simpa [inB] using h1
    (repeat refine sq ?_)
    refine rg ?_
    refine xo (q_build ttOk rfl) rfl ?_
    refine xst ttOk rfl ?_ rfl
    refine nl ?_
    (repeat first | refine et ?_ | refine eb ?_)
    (repeat refine sq ?_)
    refine ev_ret ?_
    (repeat first | refine evr_then ?_ | refine evr_blk ?_)
    refine ret_pureN ttOk rfl rfl ?_
    rw [show newDiskF x = zeroD by simp only [newDiskF]; rw [if_neg hx]]; simp [RpLe, L2, RcLe, zeroD]
  · have hx : 1 ≤ x ∧ x ≤ 40 := by simpa [inB] using h1
    (repeat refine sq ?_)
    refine ev_skip ?_
    (repeat first | refine et ?_ | refine eb ?_)
    (repeat refine sq ?_)
    refine rg ?_
    refine xm rfl rfl ?_
    refine evl_e (e_make (m := x.toNat) ttOk rfl rfl rfl rfl rfl (by omega) (by omega) (by omega) rfl rfl) ?_
    refine xo (q_build ttOk rfl) rfl ?_
    refine xst ttOk rfl ?_ rfl
    refine nl ?_
    (repeat first | refine et ?_ | refine eb ?_)
    refine ev_nils (r := 8) (m := 1) (l' := (List.replicate x.toNat ([] : List Int)).map fun r => [ints r]) rfl (by simp [nilTo]) rfl ?_
    (repeat refine sq ?_)
    refine ev_ret ?_
    (repeat first | refine evr_then ?_ | refine evr_blk ?_)
    refine ret_pureN ttOk rfl rfl ?_
    rw [show newDiskF x = ⟨List.replicate x.toNat [], []⟩ by simp only [newDiskF]; rw [if_pos hx]]; simp [RpLe, L2, RcLe]
theorem c_NewTwo (x : Int) : Pure Tryz.prog 138 [one (iC x)] [many' (twoR (newTwoF x))] := by
  refine pure_intro (N := 8) Tryz.func138 rfl rfl rfl rfl (fun H w => ?_)
  (repeat refine sq ?_)
  refine rg ?_
  refine evl_e (e_alloc ttOk rfl rfl rfl rfl) ?_
  refine nl ?_
  (repeat first | refine et ?_ | refine eb ?_)
  (repeat refine sq ?_)
  refine rg ?_
  refine xm rfl rfl ?_
  refine evl_call (nm := 4) (cf rfl) (c_NewDisk _) (rs_of rfl) rfl rfl rfl ?_
  refine xm rfl rfl ?_
  refine evl_call (nm := 6) (cf rfl) (c_NewDisk _) (rs_of rfl) rfl rfl rfl ?_
  refine xo (q_build ttOk rfl) rfl ?_
  refine xst ttOk rfl ?_ rfl
  refine nl ?_
  (repeat first | refine et ?_ | refine eb ?_)
  (repeat refine sq ?_)
  refine ev_ret ?_
  (repeat first | refine evr_then ?_ | refine evr_blk ?_)
  refine ret_pure' ttOk rfl rfl ?_
  rfl
theorem c_NewTwo' (x : Int) : Pure Tryz.prog 139 [one (iC x)] [many' (twoR (newTwoF x))] := by
  refine pure_intro (N := 8) Tryz.func139 rfl rfl rfl rfl (fun H w => ?_)
  (repeat refine sq ?_)
  refine rg ?_
  refine evl_e (e_alloc ttOk rfl rfl rfl rfl) ?_
  refine nl ?_
  (repeat first | refine et ?_ | refine eb ?_)
  (repeat refine sq ?_)
  refine rg ?_
  refine xm rfl rfl ?_
  refine evl_call (nm := 4) (cf rfl) (c_NewDisk' _) (rs_of rfl) rfl rfl rfl ?_
  refine xm rfl rfl ?_
  refine evl_call (nm := 6) (cf rfl) (c_NewDisk' _) (rs_of rfl) rfl rfl rfl ?_
  refine xo (q_build ttOk rfl) rfl ?_
  refine xst ttOk rfl ?_ rfl
  refine nl ?_
  (repeat first | refine et ?_ | refine eb ?_)
  (repeat refine sq ?_)
  refine ev_ret ?_
  (repeat first | refine evr_then ?_ | refine evr_blk ?_)
  refine ret_pure' ttOk rfl rfl ?_
  rfl
theorem c_BothWrote (t : Two) (x : Int) (row : List Int) : Pure Tryz.prog 191 [many (twoC t), one (iC x), one (ints row)] [many' (twoR ((bothWroteF t x row).1)), one' (RC.v (.bool ((bothWroteF t x row).2)))] := by
  refine pure_intro (N := 51) Tryz.func191 rfl rfl rfl rfl (fun H w => ?_)
  have hsl := withSum_len (l := row)
  (repeat refine sq ?_)
  refine rg ?_
  refine evl_e (e_box rfl rfl rfl rfl) ?_
  refine evl_e (e_alloc ttOk rfl rfl rfl rfl) ?_
  refine xs rfl rfl ?_
  refine nl ?_
  (repeat first | refine et ?_ | refine eb ?_)
  (repeat refine sq ?_)
  refine rg ?_
  refine xl ttOk rfl rfl ?_
  refine evl_call (nm := 14) (cf rfl) (c_TwoOk t) (rs_of rfl) rfl rfl rfl ?_
  refine xo (q_not rfl) rfl ?_
  refine nl ?_
  (repeat first | refine et ?_ | refine eb ?_)
  (repeat refine sq ?_)
  refine ev_cond_n rfl (fun h1 => ?_) (fun h1 => ?_)
  · (repeat refine sq ?_)
    refine rg ?_
    refine xo (q_build ttOk rfl) rfl ?_
    refine xst ttOk rfl ?_ rfl
    refine xs rfl rfl ?_
    refine nl ?_
    (repeat first | refine et ?_ | refine eb ?_)
    (repeat refine sq ?_)
    refine ev_ret ?_
    (repeat first | refine evr_then ?_ | refine evr_blk ?_)
    refine ret_pureN ttOk rfl rfl ?_
    first
    | (rw [both_no (by assumption)]; simp [RpLe, L2, RcLe, zeroD, zeroT]; done)
    | (rw [both_yes (by assumption) (by assumption) (by assumption) (by assumption)]; simp [RpLe, L2, RcLe]; done)
    | (rw [both_fail (by assumption) (by simp_all; done)]; simp [RpLe, L2, RcLe]; done)
    | (exfalso; simp_all; done)
  · obtain ⟨hka, hkb⟩ := twoOk_both h1
    (repeat refine sq ?_)
    refine ev_skip ?_
    (repeat first | refine et ?_ | refine eb ?_)
    (repeat refine sq ?_)
    refine rg ?_
    refine xm rfl rfl ?_
    refine evl_call (nm := 18) (cf rfl) (c_WithSum row) (rs_of rfl) rfl rfl rfl ?_
    refine xs rfl rfl ?_
    refine nl ?_
    (repeat first | refine et ?_ | refine eb ?_)
    (repeat refine sq ?_)
    refine rg ?_
    refine xf ttOk rfl rfl ?_
    refine xl ttOk rfl rfl ?_
    refine xm rfl rfl ?_
    refine xm rfl rfl ?_
    first | refine evl_call (nm := 24) (cf rfl) (c_Wrote t.a x (withSumF row)) (rs_of rfl) rfl rfl rfl ?_ | refine evl_call (nm := 24) (cf rfl) (c_Wrote t.b x (withSumF row)) (rs_of rfl) rfl rfl rfl ?_
    refine xm rfl rfl ?_
    refine xo (q_ext rfl) rfl ?_
    refine xo (q_ext rfl) rfl ?_
    refine evl_e (e_alloc ttOk rfl rfl rfl rfl) ?_
    refine xst ttOk rfl ?_ rfl
    refine xs rfl rfl ?_
    refine nl ?_
    (repeat first | refine et ?_ | refine eb ?_)
    (repeat refine sq ?_)
    refine rg ?_
    refine xf ttOk rfl rfl ?_
    refine xl ttOk rfl rfl ?_
    refine xm rfl rfl ?_
    refine xm rfl rfl ?_
    first | refine evl_call (nm := 32) (cf rfl) (c_Wrote t.a x (withSumF row)) (rs_of rfl) rfl rfl rfl ?_ | refine evl_call (nm := 32) (cf rfl) (c_Wrote t.b x (withSumF row)) (rs_of rfl) rfl rfl rfl ?_
    refine xm rfl rfl ?_
    refine xo (q_ext rfl) rfl ?_
    refine xo (q_ext rfl) rfl ?_
    refine evl_e (e_alloc ttOk rfl rfl rfl rfl) ?_
    refine xst ttOk rfl ?_ rfl
    refine xs rfl rfl ?_
    refine nl ?_
    (repeat first | refine et ?_ | refine eb ?_)
    (repeat refine sq ?_)
    refine rg ?_
    refine xm rfl rfl ?_
    refine xo (q_len_rtm ttOk rfl rfl rfl) rfl ?_
    refine xb ttOk rfl rfl ?_
    refine xm rfl rfl ?_
    refine evl_part rfl rfl (fun h2 => ?_) (fun h2 => ?_)
    · have hcs : canSum row = false := by have := hsl.2; cases hc : canSum row <;> simp_all
      refine gn h2 rfl rfl rfl ?_
      refine gn h2 rfl rfl rfl ?_
      refine xo (q_pick_t rfl h2 rfl) rfl ?_
      refine xm rfl rfl ?_
      refine gn rfl rfl rfl rfl ?_
      refine gn rfl rfl rfl rfl ?_
      refine xo (q_pick_t rfl rfl rfl) rfl ?_
      refine nl ?_
      (repeat first | refine et ?_ | refine eb ?_)
      (repeat refine sq ?_)
      refine ev_cond_kt rfl rfl ?_
      (repeat refine sq ?_)
      refine rg ?_
      refine xl ttOk rfl rfl ?_
      refine evl_call (nm := 47) (cf rfl) (c_l4Copy t (by assumption)) (rs_of rfl) rfl rfl rfl ?_
      refine xst ttOk rfl ?_ rfl
      refine xs rfl rfl ?_
      refine nl ?_
      (repeat first | refine et ?_ | refine eb ?_)
      (repeat refine sq ?_)
      refine ev_ret ?_
      (repeat first | refine evr_then ?_ | refine evr_blk ?_)
      refine ret_pureN ttOk rfl rfl ?_
      first
      | (rw [both_no (by assumption)]; simp [RpLe, L2, RcLe, zeroD, zeroT]; done)
      | (rw [both_yes (by assumption) (by assumption) (by assumption) (by assumption)]; simp [RpLe, L2, RcLe]; done)
      | (rw [both_fail (by assumption) (by simp_all; done)]; simp [RpLe, L2, RcLe]; done)
      | (exfalso; simp_all; done)
    · have hcs : canSum row = true := by have := hsl.2; cases hc : canSum row <;> simp_all
      refine gm h2 rfl rfl rfl rfl ?_
      refine go h2 rfl rfl (q_not rfl) rfl ?_
      refine xo (q_pick_f rfl h2 rfl) rfl ?_
      refine xm rfl rfl ?_
      refine evl_partn rfl rfl (fun h3 => ?_) (fun h3 => ?_)
      · refine gn (nt h3) rfl rfl rfl ?_
        refine gn (nt h3) rfl rfl rfl ?_
        refine xo (q_pick_t rfl (nt h3) rfl) rfl ?_
        refine nl ?_
        (repeat first | refine et ?_ | refine eb ?_)
        (repeat refine sq ?_)
        refine ev_cond_kt rfl rfl ?_
        (repeat refine sq ?_)
        refine rg ?_
        refine xl ttOk rfl rfl ?_
        refine evl_call (nm := 47) (cf rfl) (c_l4Copy t (by assumption)) (rs_of rfl) rfl rfl rfl ?_
        refine xst ttOk rfl ?_ rfl
        refine xs rfl rfl ?_
        refine nl ?_
        (repeat first | refine et ?_ | refine eb ?_)
        (repeat refine sq ?_)
        refine ev_ret ?_
        (repeat first | refine evr_then ?_ | refine evr_blk ?_)
        refine ret_pureN ttOk rfl rfl ?_
        first
        | (rw [both_no (by assumption)]; simp [RpLe, L2, RcLe, zeroD, zeroT]; done)
        | (rw [both_yes (by assumption) (by assumption) (by assumption) (by assumption)]; simp [RpLe, L2, RcLe]; done)
        | (rw [both_fail (by assumption) (by simp_all; done)]; simp [RpLe, L2, RcLe]; done)
        | (exfalso; simp_all; done)
      · refine gm (nf h3) rfl rfl rfl rfl ?_
        refine go (nf h3) rfl rfl (q_not rfl) rfl ?_
        refine xo (q_pick_f rfl (nf h3) rfl) rfl ?_
        refine nl ?_
        (repeat first | refine et ?_ | refine eb ?_)
        (repeat refine sq ?_)
        refine ev_cond_n rfl (fun h4 => ?_) (fun h4 => ?_)
        · (repeat refine sq ?_)
          refine rg ?_
          refine xl ttOk rfl rfl ?_
          refine evl_call (nm := 47) (cf rfl) (c_l4Copy t (by assumption)) (rs_of rfl) rfl rfl rfl ?_
          refine xst ttOk rfl ?_ rfl
          refine xs rfl rfl ?_
          refine nl ?_
          (repeat first | refine et ?_ | refine eb ?_)
          (repeat refine sq ?_)
          refine ev_ret ?_
          (repeat first | refine evr_then ?_ | refine evr_blk ?_)
          refine ret_pureN ttOk rfl rfl ?_
          first
          | (rw [both_no (by assumption)]; simp [RpLe, L2, RcLe, zeroD, zeroT]; done)
          | (rw [both_yes (by assumption) (by assumption) (by assumption) (by assumption)]; simp [RpLe, L2, RcLe]; done)
          | (rw [both_fail (by assumption) (by simp_all; done)]; simp [RpLe, L2, RcLe]; done)
          | (exfalso; simp_all; done)
        · (repeat refine sq ?_)
          refine ev_skip ?_
          (repeat first | refine et ?_ | refine eb ?_)
          (repeat refine sq ?_)
          refine rg ?_
          refine xl ttOk rfl rfl ?_
          refine xl ttOk rfl rfl ?_
          refine xo (q_build ttOk rfl) rfl ?_
          refine xst ttOk rfl ?_ rfl
          refine xs rfl rfl ?_
          refine nl ?_
          (repeat first | refine et ?_ | refine eb ?_)
          (repeat refine sq ?_)
          refine ev_ret ?_
          (repeat first | refine evr_then ?_ | refine evr_blk ?_)
          refine ret_pureN ttOk rfl rfl ?_
          first
          | (rw [both_no (by assumption)]; simp [RpLe, L2, RcLe, zeroD, zeroT]; done)
          | (rw [both_yes (by assumption) (by assumption) (by assumption) (by assumption)]; simp [RpLe, L2, RcLe]; done)
          | (rw [both_fail (by assumption) (by simp_all; done)]; simp [RpLe, L2, RcLe]; done)
          | (exfalso; simp_all; done)

end Go.Proofs.YtpbhcdgdabfhfaaGreat
