/- Walks of functions of the program, printed by a program of the prover. -/
import Derived.Test.YtpbhcdgdabfhfaaGreatF2
namespace Go.Proofs.YtpbhcdgdabfhfaaGreat
open Go.ChangeShapes Go.WideShapes Go.ChangeAt Go.RowKit
set_option linter.unusedVariables false
set_option linter.unusedSimpArgs false
set_option maxHeartbeats 1000000
set_option maxRecDepth 100000
attribute [local irreducible] EvL Ev EvE Quiet Eff Pure RDk RDb RDo
theorem sumOf_ok {l : List Int} (h : rowOk l = true) : sumOfF l = sumF l := by simp [sumOfF, h]
theorem withSum_no {l : List Int} (h : canSum l = false) : withSumF l = [] := by simp [withSumF, h]
theorem withSum_yes {l : List Int} (h : canSum l = true) : withSumF l = l ++ [sumF l] := by simp [withSumF, h]
def unsF (l : List Int) : Option (List Int) := if rowOk l && (decide (0 < l.length) && decide (some (sumF (l.take (l.length - 1))) = l[l.length - 1]?)) then some (l.take (l.length - 1)) else none
theorem uns_yes {l : List Int} (h : rowOk l = true) (h0 : l.length - 1 < l.length) (h1 : sumF (l.take (l.length - 1)) = l[l.length - 1]) : unsF l = some (l.take (l.length - 1)) := by
  have : 0 < l.length := by omega
  simp [unsF, h, List.getElem?_eq_getElem h0, h1, this]
theorem uns_no {l : List Int} (h0 : l.length - 1 < l.length) (h1 : sumF (l.take (l.length - 1)) ≠ l[l.length - 1]) : unsF l = none := by
  simp [unsF, List.getElem?_eq_getElem h0, h1]
theorem rowOk_take {l : List Int} (h : rowOk l = true) (k : Nat) : rowOk (l.take k) = true := by
  obtain ⟨h1, h2⟩ := rowOk_nums h
  simp only [rowOk, Bool.and_eq_true, decide_eq_true_eq, List.all_eq_true, List.length_take]
  exact ⟨by omega, fun x hx => h2 x (List.mem_of_mem_take hx)⟩
def eqL (l m : List Int) : Bool := decide (l = m)
theorem eqL_len {l m : List Int} (h : (l.length : Int) ≠ m.length) : eqL l m = false := by
  unfold eqL
  exact decide_eq_false fun e => h (by rw [e])
theorem eqL_at {l m : List Int} {k : Nat} (h1 : k < l.length) (h2 : k < m.length) (h : l[k] ≠ m[k]) : eqL l m = false := by
  unfold eqL
  exact decide_eq_false fun e => h (by subst e; rfl)
theorem take_eq {α : Type} {l m : List α} {k : Nat} (h1 : k < l.length) (h2 : k < m.length) (hp : l.take k = m.take k) (h : l[k] = m[k]) : l.take (k + 1) = m.take (k + 1) := by
  rw [List.take_succ_eq_append_getElem h1, List.take_succ_eq_append_getElem h2, hp, h]
theorem take_all {α : Type} {l m : List α} {k : Nat} (h1 : ¬ k < l.length) (h2 : l.length = m.length) (hp : l.take k = m.take k) : l = m := by
  rwa [List.take_of_length_le (by omega), List.take_of_length_le (by omega)] at hp
theorem c_WithSum (l : List Int) : Pure Tryz.prog 236 [one (ints l)] [one' (intsR 2 (withSumF l))] := by
  refine pure_intro (N := 18) Tryz.func236 rfl rfl rfl rfl (fun H w => ?_)
  (repeat refine sq ?_)
  refine rg ?_
  refine xs rfl rfl ?_
  refine nl ?_
  (repeat first | refine et ?_ | refine eb ?_)
  (repeat refine sq ?_)
  refine rg ?_
  refine xm rfl rfl ?_
  refine evl_call (nm := 4) (cf rfl) (c_RowOk _) (rs_of rfl) rfl rfl rfl ?_
  refine xo (q_not rfl) rfl ?_
  refine xm rfl rfl ?_
  refine evl_partn rfl rfl (fun h1 => ?_) (fun h1 => ?_)
  · refine gn (nt h1) rfl rfl rfl ?_
    refine gn (nt h1) rfl rfl rfl ?_
    refine gn (nt h1) rfl rfl rfl ?_
    refine xo (q_pick_t rfl (nt h1) rfl) rfl ?_
    refine nl ?_
    (repeat first | refine et ?_ | refine eb ?_)
    (repeat refine sq ?_)
    refine ev_cond_kt rfl rfl ?_
    (repeat refine sq ?_)
    refine rg ?_
    refine evl_e (e_lit ttOk rfl rfl rfl) ?_
    refine xs rfl rfl ?_
    refine nl ?_
    (repeat first | refine et ?_ | refine eb ?_)
    (repeat refine sq ?_)
    refine ev_ret ?_
    (repeat first | refine evr_then ?_ | refine evr_blk ?_)
    refine ret_pure' ttOk rfl rfl ?_
    simp [withSumF, canSum, h1]
  · have hb := (rowOk_nums h1).1
    refine gm (nf h1) rfl rfl rfl rfl ?_
    refine go (nf h1) rfl rfl (q_len_map ttOk rfl rfl) rfl ?_
    refine go (nf h1) rfl rfl (q_bin ttOk rfl) rfl ?_
    refine xo (q_pick_f rfl (nf h1) rfl) rfl ?_
    refine nl ?_
    (repeat first | refine et ?_ | refine eb ?_)
    (repeat refine sq ?_)
    refine ev_cond rfl (fun h2 => ?_) (fun h2 => ?_)
    · have d2 := of_decide_eq_true h2
      (repeat refine sq ?_)
      refine rg ?_
      refine evl_e (e_lit ttOk rfl rfl rfl) ?_
      refine xs rfl rfl ?_
      refine nl ?_
      (repeat first | refine et ?_ | refine eb ?_)
      (repeat refine sq ?_)
      refine ev_ret ?_
      (repeat first | refine evr_then ?_ | refine evr_blk ?_)
      refine ret_pure' ttOk rfl rfl ?_
      have : ¬ l.length < 48 := by omega
      simp [withSumF, canSum, this]
    · have d2 := of_decide_eq_false h2
      (repeat refine sq ?_)
      refine ev_skip ?_
      (repeat first | refine et ?_ | refine eb ?_)
      (repeat refine sq ?_)
      refine rg ?_
      refine xm rfl rfl ?_
      refine evl_call (nm := 13) (cf rfl) (c_l1Copy _ (by omega)) (rs_of rfl) rfl rfl rfl ?_
      refine xm rfl rfl ?_
      refine evl_call (nm := 15) (cf rfl) (c_SumOf _) (rs_of rfl) rfl rfl rfl ?_
      refine evl_e (e_lit ttOk rfl rfl rfl) ?_
      refine evl_e (e_app ttOk rfl rfl rfl rfl rfl rfl rfl (by simp; omega) rfl rfl) ?_
      refine xs rfl rfl ?_
      refine nl ?_
      (repeat first | refine et ?_ | refine eb ?_)
      (repeat refine sq ?_)
      refine ev_ret ?_
      (repeat first | refine evr_then ?_ | refine evr_blk ?_)
      refine ret_pure' ttOk rfl rfl ?_
      have : canSum l = true := by simp only [canSum, h1, Bool.true_and, decide_eq_true_eq]; omega
      rw [withSum_yes this, sumOf_ok h1]; simp
theorem c_WithSum' (l : List Int) : Pure Tryz.prog 239 [one (ints l)] [one' (intsR 2 (withSumF l))] := by
  refine pure_intro (N := 17) Tryz.func239 rfl rfl rfl rfl (fun H w => ?_)
  (repeat refine sq ?_)
  refine rg ?_
  refine xs rfl rfl ?_
  refine nl ?_
  (repeat first | refine et ?_ | refine eb ?_)
  (repeat refine sq ?_)
  refine rg ?_
  refine xm rfl rfl ?_
  refine evl_call (nm := 4) (cf rfl) (c_RowOk' _) (rs_of rfl) rfl rfl rfl ?_
  refine xo (q_not rfl) rfl ?_
  refine xm rfl rfl ?_
  refine evl_partn rfl rfl (fun h1 => ?_) (fun h1 => ?_)
  · refine gn (nt h1) rfl rfl rfl ?_
    refine gn (nt h1) rfl rfl rfl ?_
    refine gn (nt h1) rfl rfl rfl ?_
    refine xo (q_pick_t rfl (nt h1) rfl) rfl ?_
    refine nl ?_
    (repeat first | refine et ?_ | refine eb ?_)
    (repeat refine sq ?_)
    refine ev_cond_kt rfl rfl ?_
    (repeat refine sq ?_)
    refine rg ?_
    refine xs rfl rfl ?_
    refine nl ?_
    (repeat first | refine et ?_ | refine eb ?_)
    (repeat refine sq ?_)
    refine ev_ret ?_
    (repeat first | refine evr_then ?_ | refine evr_blk ?_)
    refine ret_pureN ttOk rfl rfl ?_
    simp [withSumF, canSum, h1, RpLe, L2, RcLe]
  · have hb := (rowOk_nums h1).1
    have hn := (rowOk_nums h1).2
    refine gm (nf h1) rfl rfl rfl rfl ?_
    refine go (nf h1) rfl rfl (q_len_map ttOk rfl rfl) rfl ?_
    refine go (nf h1) rfl rfl (q_bin ttOk rfl) rfl ?_
    refine xo (q_pick_f rfl (nf h1) rfl) rfl ?_
    refine nl ?_
    (repeat first | refine et ?_ | refine eb ?_)
    (repeat refine sq ?_)
    refine ev_cond rfl (fun h2 => ?_) (fun h2 => ?_)
    · have d2 := of_decide_eq_true h2
      (repeat refine sq ?_)
      refine rg ?_
      refine xs rfl rfl ?_
      refine nl ?_
      (repeat first | refine et ?_ | refine eb ?_)
      (repeat refine sq ?_)
      refine ev_ret ?_
      (repeat first | refine evr_then ?_ | refine evr_blk ?_)
      refine ret_pureN ttOk rfl rfl ?_
      have : ¬ l.length < 48 := by omega
      simp [withSumF, canSum, this, RpLe, L2, RcLe]
    · have d2 := of_decide_eq_false h2
      (repeat refine sq ?_)
      refine ev_skip ?_
      (repeat first | refine et ?_ | refine eb ?_)
      (repeat refine sq ?_)
      refine rg ?_
      refine xm rfl rfl ?_
      refine evl_call (nm := 12) (cf rfl) (c_copyRow _ (by omega)) (rs_of rfl) rfl rfl rfl ?_
      refine xm rfl rfl ?_
      refine evl_call (nm := 14) (cf rfl) (c_checksum _ (by assumption)) (rs_of rfl) rfl rfl rfl ?_
      refine evl_e (e_lit ttOk rfl rfl rfl) ?_
      refine evl_e (e_app ttOk rfl rfl rfl rfl rfl rfl rfl (by simp; omega) rfl rfl) ?_
      refine xs rfl rfl ?_
      refine nl ?_
      (repeat first | refine et ?_ | refine eb ?_)
      (repeat refine sq ?_)
      refine ev_ret ?_
      (repeat first | refine evr_then ?_ | refine evr_blk ?_)
      refine ret_pure' ttOk rfl rfl ?_
      have : canSum l = true := by simp only [canSum, h1, Bool.true_and, decide_eq_true_eq]; omega
      rw [withSum_yes this]; simp
theorem c_WithSum_nil (l : List Int) (h : canSum l = false) : Pure Tryz.prog 239 [one (ints l)] [one' RC.nil] := by
  refine pure_intro (N := 17) Tryz.func239 rfl rfl rfl rfl (fun H w => ?_)
  (repeat refine sq ?_)
  refine rg ?_
  refine xs rfl rfl ?_
  refine nl ?_
  (repeat first | refine et ?_ | refine eb ?_)
  (repeat refine sq ?_)
  refine rg ?_
  refine xm rfl rfl ?_
  refine evl_call (nm := 4) (cf rfl) (c_RowOk' _) (rs_of rfl) rfl rfl rfl ?_
  refine xo (q_not rfl) rfl ?_
  refine xm rfl rfl ?_
  refine evl_partn rfl rfl (fun h1 => ?_) (fun h1 => ?_)
  · refine gn (nt h1) rfl rfl rfl ?_
    refine gn (nt h1) rfl rfl rfl ?_
    refine gn (nt h1) rfl rfl rfl ?_
    refine xo (q_pick_t rfl (nt h1) rfl) rfl ?_
    refine nl ?_
    (repeat first | refine et ?_ | refine eb ?_)
    (repeat refine sq ?_)
    refine ev_cond_kt rfl rfl ?_
    (repeat refine sq ?_)
    refine rg ?_
    refine xs rfl rfl ?_
    refine nl ?_
    (repeat first | refine et ?_ | refine eb ?_)
    (repeat refine sq ?_)
    refine ev_ret ?_
    (repeat first | refine evr_then ?_ | refine evr_blk ?_)
    refine ret_pure' ttOk rfl rfl ?_
    rfl
  · have hb := (rowOk_nums h1).1
    have hn := (rowOk_nums h1).2
    refine gm (nf h1) rfl rfl rfl rfl ?_
    refine go (nf h1) rfl rfl (q_len_map ttOk rfl rfl) rfl ?_
    refine go (nf h1) rfl rfl (q_bin ttOk rfl) rfl ?_
    refine xo (q_pick_f rfl (nf h1) rfl) rfl ?_
    refine nl ?_
    (repeat first | refine et ?_ | refine eb ?_)
    (repeat refine sq ?_)
    refine ev_cond rfl (fun h2 => ?_) (fun h2 => ?_)
    · have d2 := of_decide_eq_true h2
      (repeat refine sq ?_)
      refine rg ?_
      refine xs rfl rfl ?_
      refine nl ?_
      (repeat first | refine et ?_ | refine eb ?_)
      (repeat refine sq ?_)
      refine ev_ret ?_
      (repeat first | refine evr_then ?_ | refine evr_blk ?_)
      refine ret_pure' ttOk rfl rfl ?_
      rfl
    · have d2 := of_decide_eq_false h2
      (repeat refine sq ?_)
      refine ev_skip ?_
      (repeat first | refine et ?_ | refine eb ?_)
      (repeat refine sq ?_)
      refine rg ?_
      refine xm rfl rfl ?_
      refine evl_call (nm := 12) (cf rfl) (c_copyRow _ (by omega)) (rs_of rfl) rfl rfl rfl ?_
      refine xm rfl rfl ?_
      refine evl_call (nm := 14) (cf rfl) (c_checksum _ (by assumption)) (rs_of rfl) rfl rfl rfl ?_
      refine evl_e (e_lit ttOk rfl rfl rfl) ?_
      refine evl_e (e_app ttOk rfl rfl rfl rfl rfl rfl rfl (by simp; omega) rfl rfl) ?_
      refine xs rfl rfl ?_
      refine nl ?_
      (repeat first | refine et ?_ | refine eb ?_)
      (repeat refine sq ?_)
      refine ev_ret ?_
      (repeat first | refine evr_then ?_ | refine evr_blk ?_)
      refine ret_pure' ttOk rfl rfl ?_
      exact absurd h (by simp only [canSum, h1, Bool.true_and]; simp; omega)
theorem c_Unsummed (l : List Int) : Pure Tryz.prog 221 [one (ints l)] [one' (intsR 2 ((unsF l).getD [])), one' (RC.v (.bool (unsF l).isSome))] := by
  refine pure_intro (N := 31) Tryz.func221 rfl rfl rfl rfl (fun H w => ?_)
  (repeat refine sq ?_)
  refine rg ?_
  refine xs rfl rfl ?_
  refine xs rfl rfl ?_
  refine nl ?_
  (repeat first | refine et ?_ | refine eb ?_)
  (repeat refine sq ?_)
  refine rg ?_
  refine xm rfl rfl ?_
  refine evl_call (nm := 6) (cf rfl) (c_RowOk _) (rs_of rfl) rfl rfl rfl ?_
  refine xo (q_not rfl) rfl ?_
  refine xm rfl rfl ?_
  refine evl_partn rfl rfl (fun h1 => ?_) (fun h1 => ?_)
  · refine gn (nt h1) rfl rfl rfl ?_
    refine gn (nt h1) rfl rfl rfl ?_
    refine gn (nt h1) rfl rfl rfl ?_
    refine xo (q_pick_t rfl (nt h1) rfl) rfl ?_
    refine nl ?_
    (repeat first | refine et ?_ | refine eb ?_)
    (repeat refine sq ?_)
    refine ev_cond_kt rfl rfl ?_
    (repeat refine sq ?_)
    refine rg ?_
    refine evl_e (e_lit ttOk rfl rfl rfl) ?_
    refine xs rfl rfl ?_
    refine xs rfl rfl ?_
    refine nl ?_
    (repeat first | refine et ?_ | refine eb ?_)
    (repeat refine sq ?_)
    refine ev_ret ?_
    (repeat first | refine evr_then ?_ | refine evr_blk ?_)
    refine ret_pure' ttOk rfl rfl ?_
    simp [unsF, h1]
  · have hb := (rowOk_nums h1).1
    have hn := (rowOk_nums h1).2
    refine gm (nf h1) rfl rfl rfl rfl ?_
    refine go (nf h1) rfl rfl (q_len_map ttOk rfl rfl) rfl ?_
    refine go (nf h1) rfl rfl (q_bin ttOk rfl) rfl ?_
    refine xo (q_pick_f rfl (nf h1) rfl) rfl ?_
    refine nl ?_
    (repeat first | refine et ?_ | refine eb ?_)
    (repeat refine sq ?_)
    refine ev_cond rfl (fun h2 => ?_) (fun h2 => ?_)
    · have d2 := of_decide_eq_true h2
      (repeat refine sq ?_)
      refine rg ?_
      refine evl_e (e_lit ttOk rfl rfl rfl) ?_
      refine xs rfl rfl ?_
      refine xs rfl rfl ?_
      refine nl ?_
      (repeat first | refine et ?_ | refine eb ?_)
      (repeat refine sq ?_)
      refine ev_ret ?_
      (repeat first | refine evr_then ?_ | refine evr_blk ?_)
      refine ret_pure' ttOk rfl rfl ?_
      have : l = [] := List.eq_nil_of_length_eq_zero (by omega)
      simp [unsF, this]
    · have d2 := of_decide_eq_false h2
      (repeat refine sq ?_)
      refine ev_skip ?_
      (repeat first | refine et ?_ | refine eb ?_)
      (repeat refine sq ?_)
      refine rg ?_
      refine xm rfl rfl ?_
      refine xm rfl rfl ?_
      refine xo (q_len_map ttOk rfl rfl) rfl ?_
      refine xa rfl rfl rfl (by omega) rfl ?_
      refine xo (q_sl_to_map (k := l.length - 1) ttOk rfl rfl rfl (by omega) (by omega)) rfl ?_
      refine evl_call (nm := 19) (cf rfl) (c_l1Copy _ (by simp; omega)) (rs_of rfl) rfl rfl rfl ?_
      refine xs rfl rfl ?_
      refine nl ?_
      (repeat first | refine et ?_ | refine eb ?_)
      (repeat refine sq ?_)
      refine ev_drawq [] mo ?_
      refine rdk_take 0 rfl (by kernel_rfl) trivial (q_move rfl) rfl ?_
      refine rdk_take 2 rfl (by kernel_rfl) trivial (q_move rfl) rfl ?_
      refine rdk_take 3 rfl (by kernel_rfl) trivial (q_move rfl) rfl ?_
      refine rdk_take 4 rfl (by kernel_rfl) trivial (q_len_map ttOk rfl rfl) rfl ?_
      refine rdk_take 5 rfl (by kernel_rfl) trivial (q_ar rfl rfl rfl (by omega)) rfl ?_
      refine rdk_take 6 rfl (by kernel_rfl) trivial (q_ix_map (m := l.length - 1) ttOk rfl rfl rfl (by omega) (by omega)) rfl ?_
      refine rdk_take 7 rfl (by kernel_rfl) trivial (q_load ttOk rfl) rfl ?_
      refine rdk_one 1 (by kernel_rfl) ?_
      refine rdo_call (nm := 21) rfl trivial (cf rfl) (c_SumOf _) (rs_of rfl) rfl rfl rfl ?_
      refine rdk_take 8 rfl (by kernel_rfl) trivial (q_bin ttOk rfl) rfl ?_
      refine rdk_endq (by kernel_rfl) ?_
      (repeat first | refine et ?_ | refine eb ?_)
      (repeat refine sq ?_)
      refine ev_cond rfl (fun h3 => ?_) (fun h3 => ?_)
      · have d3 := of_decide_eq_true h3
        (repeat refine sq ?_)
        refine ev_pr [2, 3, 4, 29, 30] rfl ?_
        refine rg ?_
        refine evl_e (e_lit ttOk rfl rfl rfl) ?_
        refine xs rfl rfl ?_
        refine xs rfl rfl ?_
        refine nl ?_
        (repeat first | refine et ?_ | refine eb ?_)
        (repeat refine sq ?_)
        refine ev_ret ?_
        (repeat first | refine evr_then ?_ | refine evr_blk ?_)
        refine ret_pure' ttOk rfl rfl ?_
        rw [uns_no (by omega) (by rw [← sumOf_ok (rowOk_take h1 _)]; exact d3)]; rfl
      · have d3 := of_decide_eq_false h3
        (repeat refine sq ?_)
        refine ev_skip ?_
        (repeat first | refine et ?_ | refine eb ?_)
        (repeat refine sq ?_)
        refine ev_pr [2, 3, 4, 30] rfl ?_
        refine rg ?_
        refine xm rfl rfl ?_
        refine xs rfl rfl ?_
        refine xs rfl rfl ?_
        refine nl ?_
        (repeat first | refine et ?_ | refine eb ?_)
        (repeat refine sq ?_)
        refine ev_ret ?_
        (repeat first | refine evr_then ?_ | refine evr_blk ?_)
        refine ret_pure' ttOk rfl rfl ?_
        rw [uns_yes h1 (by omega) (by rw [← sumOf_ok (rowOk_take h1 _)]; exact Decidable.not_not.1 d3)]; rfl
theorem c_Unsummed' (l : List Int) : Pure Tryz.prog 228 [one (ints l)] [one' (intsR 2 ((unsF l).getD [])), one' (RC.v (.bool (unsF l).isSome))] := by
  refine pure_intro (N := 29) Tryz.func228 rfl rfl rfl rfl (fun H w => ?_)
  refine ev_lenm (t := 0) rfl (fun hL => ?_)
  (repeat refine sq ?_)
  refine rg ?_
  refine xs rfl rfl ?_
  refine xs rfl rfl ?_
  refine nl ?_
  (repeat first | refine et ?_ | refine eb ?_)
  (repeat refine sq ?_)
  refine rg ?_
  refine xm rfl rfl ?_
  refine xo (q_len_map ttOk rfl rfl) rfl ?_
  refine xb ttOk rfl rfl ?_
  refine xm rfl rfl ?_
  refine evl_part rfl rfl (fun h1 => ?_) (fun h1 => ?_)
  · have d1 := of_decide_eq_true h1
    refine gn h1 rfl rfl rfl ?_
    refine gn h1 rfl rfl rfl ?_
    refine gn h1 rfl rfl rfl ?_
    refine xo (q_pick_t rfl h1 rfl) rfl ?_
    refine nl ?_
    (repeat first | refine et ?_ | refine eb ?_)
    (repeat refine sq ?_)
    refine ev_cond_kt rfl rfl ?_
    (repeat refine sq ?_)
    refine rg ?_
    refine xs rfl rfl ?_
    refine xs rfl rfl ?_
    refine nl ?_
    (repeat first | refine et ?_ | refine eb ?_)
    (repeat refine sq ?_)
    refine ev_ret ?_
    (repeat first | refine evr_then ?_ | refine evr_blk ?_)
    refine ret_pureN ttOk rfl rfl ?_
    have : l = [] := List.eq_nil_of_length_eq_zero (by omega)
    simp [unsF, this, RpLe, L2, RcLe]
  · have d1 := of_decide_eq_false h1
    refine gm h1 rfl rfl rfl rfl ?_
    refine evl_callg rfl rfl h1 (nm := 10) (cf rfl) (c_RowOk' _) (rs_of rfl) rfl rfl rfl ?_
    refine go h1 rfl rfl (q_not rfl) rfl ?_
    refine xo (q_pick_f rfl h1 rfl) rfl ?_
    refine nl ?_
    (repeat first | refine et ?_ | refine eb ?_)
    (repeat refine sq ?_)
    refine ev_cond_n rfl (fun h2 => ?_) (fun h2 => ?_)
    · (repeat refine sq ?_)
      refine rg ?_
      refine xs rfl rfl ?_
      refine xs rfl rfl ?_
      refine nl ?_
      (repeat first | refine et ?_ | refine eb ?_)
      (repeat refine sq ?_)
      refine ev_ret ?_
      (repeat first | refine evr_then ?_ | refine evr_blk ?_)
      refine ret_pureN ttOk rfl rfl ?_
      simp [unsF, h2, RpLe, L2, RcLe]
    · have hb := (rowOk_nums h2).1
      have hn := (rowOk_nums h2).2
      (repeat refine sq ?_)
      refine ev_skip ?_
      (repeat first | refine et ?_ | refine eb ?_)
      (repeat refine sq ?_)
      refine rg ?_
      refine xm rfl rfl ?_
      refine xo (q_len_map ttOk rfl rfl) rfl ?_
      refine xa rfl rfl rfl (by omega) rfl ?_
      refine xs rfl rfl ?_
      refine nl ?_
      (repeat first | refine et ?_ | refine eb ?_)
      (repeat refine sq ?_)
      refine ev_drawq [] mo ?_
      refine rdk_take 0 rfl (by kernel_rfl) trivial (q_move rfl) rfl ?_
      refine rdk_take 1 rfl (by kernel_rfl) trivial (q_move rfl) rfl ?_
      refine rdk_take 2 rfl (by kernel_rfl) trivial (q_sl_to_map (k := l.length - 1) ttOk rfl rfl rfl (by omega) (by omega)) rfl ?_
      refine rdk_take 4 rfl (by kernel_rfl) trivial (q_move rfl) rfl ?_
      refine rdk_take 5 rfl (by kernel_rfl) trivial (q_move rfl) rfl ?_
      refine rdk_take 6 rfl (by kernel_rfl) trivial (q_ix_map (m := l.length - 1) ttOk rfl rfl rfl (by omega) (by omega)) rfl ?_
      refine rdk_take 7 rfl (by kernel_rfl) trivial (q_load ttOk rfl) rfl ?_
      refine rdk_one 3 (by kernel_rfl) ?_
      refine rdo_call (nm := 19) rfl trivial (cf rfl) (c_checksum _ (fun x hx => hn x (List.mem_of_mem_take hx))) (rs_of rfl) rfl rfl rfl ?_
      refine rdk_take 8 rfl (by kernel_rfl) trivial (q_bin ttOk rfl) rfl ?_
      refine rdk_endq (by kernel_rfl) ?_
      (repeat first | refine et ?_ | refine eb ?_)
      (repeat refine sq ?_)
      refine ev_cond rfl (fun h3 => ?_) (fun h3 => ?_)
      · have d3 := of_decide_eq_true h3
        (repeat refine sq ?_)
        refine rg ?_
        refine xs rfl rfl ?_
        refine xs rfl rfl ?_
        refine nl ?_
        (repeat first | refine et ?_ | refine eb ?_)
        (repeat refine sq ?_)
        refine ev_ret ?_
        (repeat first | refine evr_then ?_ | refine evr_blk ?_)
        refine ret_pureN ttOk rfl rfl ?_
        rw [uns_no (by omega) d3]; simp [RpLe, L2, RcLe]
      · have d3 := of_decide_eq_false h3
        (repeat refine sq ?_)
        refine ev_skip ?_
        (repeat first | refine et ?_ | refine eb ?_)
        (repeat refine sq ?_)
        refine rg ?_
        refine xm rfl rfl ?_
        refine xm rfl rfl ?_
        refine xo (q_sl_to_map (k := l.length - 1) ttOk rfl rfl rfl (by omega) (by omega)) rfl ?_
        refine evl_call (nm := 28) (cf rfl) (c_copyRow _ (by simp; omega)) (rs_of rfl) rfl rfl rfl ?_
        refine xs rfl rfl ?_
        refine xs rfl rfl ?_
        refine nl ?_
        (repeat first | refine et ?_ | refine eb ?_)
        (repeat refine sq ?_)
        refine ev_ret ?_
        (repeat first | refine evr_then ?_ | refine evr_blk ?_)
        refine ret_pure' ttOk rfl rfl ?_
        rw [uns_yes h2 (by omega) (Decidable.not_not.1 d3)]; rfl

end Go.Proofs.YtpbhcdgdabfhfaaGreat
