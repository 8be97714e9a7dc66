/- Walks of functions of the program, printed by a program of the prover. -/
import Derived.Test.YtpbhcdgdabfhfaaGreatF23
namespace Go.Proofs.YtpbhcdgdabfhfaaGreat
open Go.ChangeShapes Go.WideShapes Go.ChangeAt Go.RowKit
set_option linter.unusedVariables false
set_option linter.unusedSimpArgs false
set_option maxHeartbeats 1000000
set_option maxRecDepth 100000
attribute [local irreducible] EvL Ev EvE Quiet Eff Pure RDk RDb RDo
theorem c_l3Torn (row old : List Int) (h : row.length ≤ 48 ∧ old.length ≤ 48) : Pure Tryz.prog 258 [one (ints row), one (ints old)] [one' (intsR 2 (tornF row old))] := by
  refine pure_intro (N := 24) Tryz.func258 rfl rfl rfl rfl (fun H w => ?_)
  (repeat refine sq ?_)
  refine rg ?_
  refine xs rfl rfl ?_
  refine nl ?_
  (repeat first | refine et ?_ | refine eb ?_)
  (repeat refine sq ?_)
  refine rg ?_
  refine xm rfl rfl ?_
  refine xo (q_len_map ttOk rfl rfl) rfl ?_
  refine xo (q_quo_pos rfl rfl (by omega)) rfl ?_
  refine xs rfl rfl ?_
  refine nl ?_
  (repeat first | refine et ?_ | refine eb ?_)
  (repeat refine sq ?_)
  refine rg ?_
  refine xm rfl rfl ?_
  refine xm rfl rfl ?_
  refine xo (q_sl_to_map (k := row.length / 2) ttOk rfl rfl rfl (by omega) (by omega)) rfl ?_
  refine evl_call (nm := 13) (cf rfl) (c_l1Copy _ (by simp; omega)) (rs_of rfl) rfl rfl rfl ?_
  refine xs rfl rfl ?_
  refine nl ?_
  (repeat first | refine et ?_ | refine eb ?_)
  (repeat refine sq ?_)
  refine rg ?_
  refine xm rfl rfl ?_
  refine xm rfl rfl ?_
  refine xo (q_len_map ttOk rfl rfl) rfl ?_
  refine xb ttOk rfl rfl ?_
  refine nl ?_
  (repeat first | refine et ?_ | refine eb ?_)
  (repeat refine sq ?_)
  refine ev_cond rfl (fun h1 => ?_) (fun h1 => ?_)
  · try have d1 := of_decide_eq_true h1
    (repeat refine sq ?_)
    refine rg ?_
    refine xm rfl rfl ?_
    refine xm rfl rfl ?_
    refine xm rfl rfl ?_
    refine xo (q_sl_from_map (k := row.length / 2) ttOk rfl rfl rfl (by omega) (by omega)) rfl ?_
    refine evl_e (e_app_c ttOk rfl rfl rfl rfl rfl (flat_ints _) (by simp; omega) rfl rfl) ?_
    refine xs rfl rfl ?_
    refine nl ?_
    (repeat first | refine et ?_ | refine eb ?_)
    (repeat refine sq ?_)
    refine rg ?_
    refine xm rfl rfl ?_
    refine xs rfl rfl ?_
    refine nl ?_
    (repeat first | refine et ?_ | refine eb ?_)
    (repeat refine sq ?_)
    refine ev_ret ?_
    (repeat first | refine evr_then ?_ | refine evr_blk ?_)
    refine ret_pure' ttOk rfl rfl ?_
    rw [← List.map_append]; rfl
  · try have d1 := of_decide_eq_false h1
    (repeat refine sq ?_)
    refine ev_skip ?_
    (repeat first | refine et ?_ | refine eb ?_)
    (repeat refine sq ?_)
    refine rg ?_
    refine xm rfl rfl ?_
    refine xs rfl rfl ?_
    refine nl ?_
    (repeat first | refine et ?_ | refine eb ?_)
    (repeat refine sq ?_)
    refine ev_ret ?_
    (repeat first | refine evr_then ?_ | refine evr_blk ?_)
    refine ret_pure' ttOk rfl rfl ?_
    rw [show tornF row old = row.take (row.length / 2) by simp only [tornF]; rw [List.drop_of_length_le (by omega), List.append_nil]]
theorem c_torn (row old : List Int) (h : row.length ≤ 48 ∧ old.length ≤ 48) : Pure Tryz.prog 234 [one (ints row), one (ints old)] [one' (intsR 2 (tornF row old))] := by
  refine pure_intro (N := 24) Tryz.func234 rfl rfl rfl rfl (fun H w => ?_)
  (repeat refine sq ?_)
  refine rg ?_
  refine xs rfl rfl ?_
  refine nl ?_
  (repeat first | refine et ?_ | refine eb ?_)
  (repeat refine sq ?_)
  refine rg ?_
  refine xm rfl rfl ?_
  refine xo (q_len_map ttOk rfl rfl) rfl ?_
  refine xo (q_quo_pos rfl rfl (by omega)) rfl ?_
  refine xs rfl rfl ?_
  refine nl ?_
  (repeat first | refine et ?_ | refine eb ?_)
  (repeat refine sq ?_)
  refine rg ?_
  refine xm rfl rfl ?_
  refine xm rfl rfl ?_
  refine xo (q_sl_to_map (k := row.length / 2) ttOk rfl rfl rfl (by omega) (by omega)) rfl ?_
  refine evl_call (nm := 13) (cf rfl) (c_copyRow _ (by simp; omega)) (rs_of rfl) rfl rfl rfl ?_
  refine xs rfl rfl ?_
  refine nl ?_
  (repeat first | refine et ?_ | refine eb ?_)
  (repeat refine sq ?_)
  refine rg ?_
  refine xm rfl rfl ?_
  refine xo (q_len_map ttOk rfl rfl) rfl ?_
  refine xm rfl rfl ?_
  refine xb ttOk rfl rfl ?_
  refine nl ?_
  (repeat first | refine et ?_ | refine eb ?_)
  (repeat refine sq ?_)
  refine ev_cond rfl (fun h1 => ?_) (fun h1 => ?_)
  · try have d1 := of_decide_eq_true h1
    (repeat refine sq ?_)
    refine rg ?_
    refine xm rfl rfl ?_
    refine xm rfl rfl ?_
    refine xm rfl rfl ?_
    refine xo (q_sl_from_map (k := row.length / 2) ttOk rfl rfl rfl (by omega) (by omega)) rfl ?_
    refine evl_e (e_app_c ttOk rfl rfl rfl rfl rfl (flat_ints _) (by simp; omega) rfl rfl) ?_
    refine xs rfl rfl ?_
    refine nl ?_
    (repeat first | refine et ?_ | refine eb ?_)
    (repeat refine sq ?_)
    refine rg ?_
    refine xm rfl rfl ?_
    refine xs rfl rfl ?_
    refine nl ?_
    (repeat first | refine et ?_ | refine eb ?_)
    (repeat refine sq ?_)
    refine ev_ret ?_
    (repeat first | refine evr_then ?_ | refine evr_blk ?_)
    refine ret_pure' ttOk rfl rfl ?_
    rw [← List.map_append]; rfl
  · try have d1 := of_decide_eq_false h1
    (repeat refine sq ?_)
    refine ev_skip ?_
    (repeat first | refine et ?_ | refine eb ?_)
    (repeat refine sq ?_)
    refine rg ?_
    refine xm rfl rfl ?_
    refine xs rfl rfl ?_
    refine nl ?_
    (repeat first | refine et ?_ | refine eb ?_)
    (repeat refine sq ?_)
    refine ev_ret ?_
    (repeat first | refine evr_then ?_ | refine evr_blk ?_)
    refine ret_pure' ttOk rfl rfl ?_
    rw [show tornF row old = row.take (row.length / 2) by simp only [tornF]; rw [List.drop_of_length_le (by omega), List.append_nil]]
theorem c_l3Fall (d : Disk) (F : List Int) (all : Bool) (h : diskOk d = true) : Pure Tryz.prog 232 [many (diskC d), one (ints F), one (bC all)] [many' (diskR ⟨fallUp d F all d.wait.length, []⟩)] := by
  refine pure_intro (N := 67) Tryz.func232 rfl rfl rfl rfl (fun H w => ?_)
  have hs := diskOk_sizes h
  refine ev_lenm (t := 1) rfl (fun hL => ?_)
  (repeat refine sq ?_)
  refine rg ?_
  refine evl_e (e_box rfl rfl rfl rfl) ?_
  refine evl_e (e_alloc ttOk rfl rfl rfl rfl) ?_
  refine nl ?_
  (repeat first | refine et ?_ | refine eb ?_)
  (repeat refine sq ?_)
  refine rg ?_
  first | refine xo (q_load_pr ttOk rfl rfl rfl rfl (get_map (by omega)) rfl rfl) rfl ?_ | refine xl ttOk rfl rfl ?_
  refine evl_call (nm := 12) (cf rfl) (c_l3Copy d h) (rs_of rfl) rfl rfl rfl ?_
  refine xo (q_field ttOk rfl) rfl ?_
  refine xo (q_build ttOk rfl) rfl ?_
  refine evl_e (e_alloc ttOk rfl rfl rfl rfl) ?_
  refine xst ttOk rfl ?_ rfl
  refine nl ?_
  (repeat first | refine et ?_ | refine eb ?_)
  (repeat refine sq ?_)
  refine rg ?_
  refine xs rfl rfl ?_
  refine nl ?_
  (repeat first | refine et ?_ | refine eb ?_)
  (repeat refine sq ?_)
  refine ev_blk ?_
  (repeat refine sq ?_)
  refine ev_loop (fun k : Nat => (⟨[(8, iV k), (1, cV (ints F)), (2, bV all), (3, pbV 3 0), (6, pbV 6 0), (7, pbV 7 0)], [(7, 25, [.rt 101, .c .nil]), (6, 25, [.c .nil, .c .nil]), (3, 25, [.c (rows d.kept), .c (writes d.wait)])], [(101, 80, 1, ((fallUp d F all k).map fun r => [ints r]))], []⟩ : St)) (fun k => k ≤ d.wait.length) (fun k => d.wait.length - k) 0 [(101, 12)] (by simp) ⟨by (repeat first | exact trivial | refine ⟨rfl, ?_⟩), by (repeat first | exact trivial | refine ⟨rfl, ?_⟩), ⟨⟨_, rfl, by rfl⟩, trivial⟩, by (repeat first | exact trivial | refine ⟨⟨_, rfl, rfl⟩, ?_⟩), rfl⟩ ?_
  intro k hp
  have p0 := hp
  show Ev _ _ _ _ (⟨[(8, iV k), (1, cV (ints F)), (2, bV all), (3, pbV 3 0), (6, pbV 6 0), (7, pbV 7 0)], [(7, 25, [.rt 101, .c .nil]), (6, 25, [.c .nil, .c .nil]), (3, 25, [.c (rows d.kept), .c (writes d.wait)])], [(101, 80, 1, ((fallUp d F all k).map fun r => [ints r]))], []⟩ : St)
  (repeat refine sq ?_)
  refine rg ?_
  refine xm rfl rfl ?_
  refine xf ttOk rfl rfl ?_
  first | refine xo (q_load_pr ttOk rfl rfl rfl rfl (get_map (by omega)) rfl rfl) rfl ?_ | refine xl ttOk rfl rfl ?_
  refine xo (q_len_map ttOk rfl rfl) rfl ?_
  refine xb ttOk rfl rfl ?_
  refine nl ?_
  (repeat first | refine et ?_ | refine eb ?_)
  (repeat refine sq ?_)
  refine ev_cond rfl (fun h1 => ?_) (fun h1 => ?_)
  · try have d1 := of_decide_eq_true h1
    (repeat refine sq ?_)
    refine ev_skip ?_
    (repeat first | refine et ?_ | refine eb ?_)
    (repeat refine sq ?_)
    refine ev_blk ?_
    (repeat refine sq ?_)
    have hx := wait_at h (k := k) (by omega)
    have hl := fallUp_len d F all k
    have hrw := fallUp_rows h F all k (by omega)
    refine rg ?_
    refine xf ttOk rfl rfl ?_
    first | refine xo (q_load_pr ttOk rfl rfl rfl rfl (get_map (by omega)) rfl rfl) rfl ?_ | refine xl ttOk rfl rfl ?_
    refine xm rfl rfl ?_
    refine xo (q_ix_map ttOk rfl rfl rfl rfl (by omega)) rfl ?_
    first | refine xo (q_load_pr ttOk rfl rfl rfl rfl (get_map (by omega)) rfl rfl) rfl ?_ | refine xl ttOk rfl rfl ?_
    refine evl_e (e_alloc ttOk rfl rfl rfl rfl) ?_
    refine xst ttOk rfl ?_ rfl
    refine nl ?_
    (repeat first | refine et ?_ | refine eb ?_)
    (repeat refine sq ?_)
    refine rg ?_
    refine xs rfl rfl ?_
    refine nl ?_
    (repeat first | refine et ?_ | refine eb ?_)
    (repeat refine sq ?_)
    refine rg ?_
    refine xm rfl rfl ?_
    refine xm rfl rfl ?_
    refine xo (q_len_map ttOk rfl rfl) rfl ?_
    refine xb ttOk rfl rfl ?_
    refine nl ?_
    (repeat first | refine et ?_ | refine eb ?_)
    (repeat refine sq ?_)
    refine ev_cond rfl (fun h2 => ?_) (fun h2 => ?_)
    · try have d2 := of_decide_eq_true h2
      have hf := fate_in (F := F) (k := k) (by omega)
      (repeat refine sq ?_)
      refine rg ?_
      refine xm rfl rfl ?_
      refine xm rfl rfl ?_
      refine xo (q_ix_map ttOk rfl rfl rfl rfl (by omega)) rfl ?_
      first | refine xo (q_load_pr ttOk rfl rfl rfl rfl (get_map (by omega)) rfl rfl) rfl ?_ | refine xl ttOk rfl rfl ?_
      refine xs rfl rfl ?_
      refine nl ?_
      (repeat first | refine et ?_ | refine eb ?_)
      (repeat refine sq ?_)
      refine ev_blk ?_
      (repeat refine sq ?_)
      refine rg ?_
      refine xm rfl rfl ?_
      refine xm rfl rfl ?_
      refine evl_part rfl rfl (fun h3 => ?_) (fun h3 => ?_)
      · try have d3 := of_decide_eq_true h3
        refine gn h3 rfl rfl rfl ?_
        refine gn h3 rfl rfl rfl ?_
        refine xo (q_pick_t rfl h3 rfl) rfl ?_
        refine xs rfl rfl ?_
        refine nl ?_
        (repeat first | refine et ?_ | refine eb ?_)
        (repeat refine sq ?_)
        refine ev_cond_kt rfl rfl ?_
        (repeat refine sq ?_)
        refine ev_pr [1, 2, 3, 6, 7, 8, 9, 10, 15, 16, 17, 18, 19, 20, 21, 22, 23, 24, 25, 26, 27, 28, 29, 30, 31, 32, 33, 34, 35, 36, 37, 38, 39, 40, 41, 42, 43, 44, 45, 46, 47, 48, 49, 50, 51, 52, 53, 54, 55, 56, 57, 58, 59, 60, 61, 62, 63, 64, 65, 66] rfl ?_
        refine ev_drawq [8] mo ?_
        refine rdk_take 0 rfl (by kernel_rfl) trivial (q_fieldAddr ttOk rfl) rfl ?_
        first | refine rdk_take 1 rfl (by kernel_rfl) trivial (q_load_pr ttOk rfl rfl rfl rfl (get_map (by omega)) rfl rfl) rfl ?_ | refine rdk_take 1 rfl (by kernel_rfl) trivial (q_load ttOk rfl) rfl ?_
        refine rdk_take 2 rfl (by kernel_rfl) trivial (q_fieldAddr ttOk rfl) rfl ?_
        first | refine rdk_take 3 rfl (by kernel_rfl) trivial (q_load_pr ttOk rfl rfl rfl rfl (get_map (by omega)) rfl rfl) rfl ?_ | refine rdk_take 3 rfl (by kernel_rfl) trivial (q_load ttOk rfl) rfl ?_
        refine rdk_take 4 rfl (by kernel_rfl) trivial (q_fieldAddr ttOk rfl) rfl ?_
        first | refine rdk_take 5 rfl (by kernel_rfl) trivial (q_load_pr ttOk rfl rfl rfl rfl (get_map (by omega)) rfl rfl) rfl ?_ | refine rdk_take 5 rfl (by kernel_rfl) trivial (q_load ttOk rfl) rfl ?_
        refine rdk_one 6 (by kernel_rfl) ?_
        refine rdo_call (nm := 47) rfl trivial (cf rfl) (c_l1Copy _ (by omega)) (rs_of rfl) rfl rfl rfl ?_
        refine rdk_take 7 rfl (by kernel_rfl) trivial (q_ix_rt (m := (d.wait[k]'(by omega)).1.toNat) ttOk rfl rfl rfl rfl rfl (by omega) (by rw [List.length_map]; omega)) rfl ?_
        refine rdk_one 8 (by kernel_rfl) ?_
        refine rdo_brk rfl rfl trivial (e_st_pr ttOk rfl rfl rfl rfl rfl rfl rfl (get_map (by omega)) rfl rfl rfl rfl rfl) ?_
        refine rdb_endq (by kernel_rfl) ?_
        (repeat first | refine et ?_ | refine eb ?_)
        (repeat refine sq ?_)
        refine rg ?_
        refine xm rfl rfl ?_
        refine xa rfl rfl rfl (by omega) rfl ?_
        refine xs rfl rfl ?_
        refine nl ?_
        (repeat first | refine et ?_ | refine eb ?_)
        (repeat first | refine et ?_ | refine eb ?_)
        refine eve_round (k + 1) [] ?hp ⟨by (repeat first | exact trivial | refine ⟨rfl, ?_⟩), by (repeat first | exact trivial | refine ⟨rfl, ?_⟩), ⟨⟨_, rfl, by (first | (exact fall_kept (by omega) (by simp_all)) | (exfalso; simp_all; done))⟩, trivial⟩, by (repeat first | exact trivial | refine ⟨⟨_, rfl, rfl⟩, ?_⟩), rfl⟩
        case hp => exact ⟨by omega, by omega⟩
      · try have d3 := of_decide_eq_false h3
        refine gm h3 rfl rfl rfl rfl ?_
        refine go h3 rfl rfl (q_bin ttOk rfl) rfl ?_
        refine xo (q_pick_f rfl h3 rfl) rfl ?_
        refine xs rfl rfl ?_
        refine nl ?_
        (repeat first | refine et ?_ | refine eb ?_)
        (repeat refine sq ?_)
        refine ev_cond rfl (fun h4 => ?_) (fun h4 => ?_)
        · try have d4 := of_decide_eq_true h4
          (repeat refine sq ?_)
          refine ev_pr [1, 2, 3, 6, 7, 8, 9, 10, 15, 16, 17, 18, 19, 20, 21, 22, 23, 24, 25, 26, 27, 28, 29, 30, 31, 32, 33, 34, 35, 36, 37, 38, 39, 40, 41, 42, 43, 44, 45, 46, 47, 48, 49, 50, 51, 52, 53, 54, 55, 56, 57, 58, 59, 60, 61, 62, 63, 64, 65, 66] rfl ?_
          refine ev_drawq [8] mo ?_
          refine rdk_take 0 rfl (by kernel_rfl) trivial (q_fieldAddr ttOk rfl) rfl ?_
          first | refine rdk_take 1 rfl (by kernel_rfl) trivial (q_load_pr ttOk rfl rfl rfl rfl (get_map (by omega)) rfl rfl) rfl ?_ | refine rdk_take 1 rfl (by kernel_rfl) trivial (q_load ttOk rfl) rfl ?_
          refine rdk_take 2 rfl (by kernel_rfl) trivial (q_fieldAddr ttOk rfl) rfl ?_
          first | refine rdk_take 3 rfl (by kernel_rfl) trivial (q_load_pr ttOk rfl rfl rfl rfl (get_map (by omega)) rfl rfl) rfl ?_ | refine rdk_take 3 rfl (by kernel_rfl) trivial (q_load ttOk rfl) rfl ?_
          refine rdk_take 4 rfl (by kernel_rfl) trivial (q_fieldAddr ttOk rfl) rfl ?_
          first | refine rdk_take 5 rfl (by kernel_rfl) trivial (q_load_pr ttOk rfl rfl rfl rfl (get_map (by omega)) rfl rfl) rfl ?_ | refine rdk_take 5 rfl (by kernel_rfl) trivial (q_load ttOk rfl) rfl ?_
          refine rdk_one 6 (by kernel_rfl) ?_
          refine rdo_call (nm := 47) rfl trivial (cf rfl) (c_l1Copy _ (by omega)) (rs_of rfl) rfl rfl rfl ?_
          refine rdk_take 7 rfl (by kernel_rfl) trivial (q_ix_rt (m := (d.wait[k]'(by omega)).1.toNat) ttOk rfl rfl rfl rfl rfl (by omega) (by rw [List.length_map]; omega)) rfl ?_
          refine rdk_one 8 (by kernel_rfl) ?_
          refine rdo_brk rfl rfl trivial (e_st_pr ttOk rfl rfl rfl rfl rfl rfl rfl (get_map (by omega)) rfl rfl rfl rfl rfl) ?_
          refine rdb_endq (by kernel_rfl) ?_
          (repeat first | refine et ?_ | refine eb ?_)
          (repeat refine sq ?_)
          refine rg ?_
          refine xm rfl rfl ?_
          refine xa rfl rfl rfl (by omega) rfl ?_
          refine xs rfl rfl ?_
          refine nl ?_
          (repeat first | refine et ?_ | refine eb ?_)
          (repeat first | refine et ?_ | refine eb ?_)
          refine eve_round (k + 1) [] ?hp ⟨by (repeat first | exact trivial | refine ⟨rfl, ?_⟩), by (repeat first | exact trivial | refine ⟨rfl, ?_⟩), ⟨⟨_, rfl, by (first | (exact fall_kept (by omega) (by simp_all)) | (exfalso; simp_all; done))⟩, trivial⟩, by (repeat first | exact trivial | refine ⟨⟨_, rfl, rfl⟩, ?_⟩), rfl⟩
          case hp => exact ⟨by omega, by omega⟩
        · try have d4 := of_decide_eq_false h4
          (repeat refine sq ?_)
          refine ev_pr [1, 2, 3, 6, 7, 8, 9, 10, 15, 16, 17, 18, 19, 20, 21, 22, 23, 24, 25, 26, 27, 28, 29, 30, 31, 32, 33, 34, 35, 36, 37, 38, 39, 40, 41, 42, 43, 44, 45, 46, 47, 48, 49, 50, 51, 52, 53, 54, 55, 56, 57, 58, 59, 60, 61, 62, 63, 64, 65, 66] rfl ?_
          refine rg ?_
          refine xm rfl rfl ?_
          refine xb ttOk rfl rfl ?_
          refine xs rfl rfl ?_
          refine nl ?_
          (repeat first | refine et ?_ | refine eb ?_)
          (repeat refine sq ?_)
          refine ev_cond rfl (fun h5 => ?_) (fun h5 => ?_)
          · try have d5 := of_decide_eq_true h5
            (repeat refine sq ?_)
            refine ev_drawq [14] mo ?_
            refine rdk_take 0 rfl (by kernel_rfl) trivial (q_fieldAddr ttOk rfl) rfl ?_
            first | refine rdk_take 1 rfl (by kernel_rfl) trivial (q_load_pr ttOk rfl rfl rfl rfl (get_map (by omega)) rfl rfl) rfl ?_ | refine rdk_take 1 rfl (by kernel_rfl) trivial (q_load ttOk rfl) rfl ?_
            refine rdk_take 2 rfl (by kernel_rfl) trivial (q_fieldAddr ttOk rfl) rfl ?_
            first | refine rdk_take 3 rfl (by kernel_rfl) trivial (q_load_pr ttOk rfl rfl rfl rfl (get_map (by omega)) rfl rfl) rfl ?_ | refine rdk_take 3 rfl (by kernel_rfl) trivial (q_load ttOk rfl) rfl ?_
            refine rdk_take 4 rfl (by kernel_rfl) trivial (q_fieldAddr ttOk rfl) rfl ?_
            first | refine rdk_take 5 rfl (by kernel_rfl) trivial (q_load_pr ttOk rfl rfl rfl rfl (get_map (by omega)) rfl rfl) rfl ?_ | refine rdk_take 5 rfl (by kernel_rfl) trivial (q_load ttOk rfl) rfl ?_
            refine rdk_take 6 rfl (by kernel_rfl) trivial (q_fieldAddr ttOk rfl) rfl ?_
            first | refine rdk_take 7 rfl (by kernel_rfl) trivial (q_load_pr ttOk rfl rfl rfl rfl (get_map (by omega)) rfl rfl) rfl ?_ | refine rdk_take 7 rfl (by kernel_rfl) trivial (q_load ttOk rfl) rfl ?_
            refine rdk_take 8 rfl (by kernel_rfl) trivial (q_fieldAddr ttOk rfl) rfl ?_
            first | refine rdk_take 9 rfl (by kernel_rfl) trivial (q_load_pr ttOk rfl rfl rfl rfl (get_map (by omega)) rfl rfl) rfl ?_ | refine rdk_take 9 rfl (by kernel_rfl) trivial (q_load ttOk rfl) rfl ?_
            refine rdk_take 10 rfl (by kernel_rfl) trivial (q_ix_rt (m := (d.wait[k]'(by omega)).1.toNat) ttOk rfl rfl rfl rfl rfl (by omega) (by rw [List.length_map]; omega)) rfl ?_
            first | refine rdk_take 11 rfl (by kernel_rfl) trivial (q_load_pr ttOk rfl rfl rfl rfl (get_map (by omega)) rfl rfl) rfl ?_ | refine rdk_take 11 rfl (by kernel_rfl) trivial (q_load ttOk rfl) rfl ?_
            refine rdk_one 12 (by kernel_rfl) ?_
            refine rdo_call (nm := 64) rfl trivial (cf rfl) (c_l3Torn (d.wait[k]'(by omega)).2 ((fallUp d F all k)[(d.wait[k]'(by omega)).1.toNat]'(by omega)) ⟨by omega, hrw _ (List.getElem_mem _)⟩) (rs_c_sub rfl rfl rfl (get_map (by omega)) rfl) rfl rfl rfl ?_
            refine rdk_take 13 rfl (by kernel_rfl) trivial (q_ix_rt (m := (d.wait[k]'(by omega)).1.toNat) ttOk rfl rfl rfl rfl rfl (by omega) (by rw [List.length_map]; omega)) rfl ?_
            refine rdk_one 14 (by kernel_rfl) ?_
            refine rdo_brk rfl rfl trivial (eff_flt 101 (e_st_pr ttOk rfl rfl rfl rfl rfl rfl rfl (get_map (by omega)) rfl rfl rfl rfl rfl)) ?_
            refine rdb_endq (by kernel_rfl) ?_
            (repeat first | refine et ?_ | refine eb ?_)
            (repeat refine sq ?_)
            refine rg ?_
            refine xm rfl rfl ?_
            refine xa rfl rfl rfl (by omega) rfl ?_
            refine xs rfl rfl ?_
            refine nl ?_
            (repeat first | refine et ?_ | refine eb ?_)
            (repeat first | refine et ?_ | refine eb ?_)
            refine eve_round (k + 1) [] ?hp ⟨by (repeat first | exact trivial | refine ⟨rfl, ?_⟩), by (repeat first | exact trivial | refine ⟨rfl, ?_⟩), ⟨⟨_, rfl, by (first | (exact fall_torn (by omega) (by simp_all) (by simp_all) (by rw [fallUp_len]; omega)) | (exfalso; simp_all; done))⟩, trivial⟩, by (repeat first | exact trivial | refine ⟨⟨_, rfl, rfl⟩, ?_⟩), rfl⟩
            case hp => exact ⟨by omega, by omega⟩
          · try have d5 := of_decide_eq_false h5
            (repeat refine sq ?_)
            refine ev_skip ?_
            (repeat first | refine et ?_ | refine eb ?_)
            (repeat refine sq ?_)
            refine rg ?_
            refine xm rfl rfl ?_
            refine xa rfl rfl rfl (by omega) rfl ?_
            refine xs rfl rfl ?_
            refine nl ?_
            (repeat first | refine et ?_ | refine eb ?_)
            (repeat first | refine et ?_ | refine eb ?_)
            refine eve_round (k + 1) [] ?hp ⟨by (repeat first | exact trivial | refine ⟨rfl, ?_⟩), by (repeat first | exact trivial | refine ⟨rfl, ?_⟩), ⟨⟨_, rfl, by (first | (exact fall_lost (by simp_all) (by simp_all)) | (exfalso; simp_all; done))⟩, trivial⟩, by (repeat first | exact trivial | refine ⟨⟨_, rfl, rfl⟩, ?_⟩), rfl⟩
            case hp => exact ⟨by omega, by omega⟩
    · try have d2 := of_decide_eq_false h2
      have hf := fate_out (F := F) (k := k) (by omega)
      (repeat refine sq ?_)
      refine ev_skip ?_
      (repeat first | refine et ?_ | refine eb ?_)
      (repeat refine sq ?_)
      refine ev_blk ?_
      (repeat refine sq ?_)
      refine rg ?_
      refine xm rfl rfl ?_
      refine xm rfl rfl ?_
      refine evl_part rfl rfl (fun h6 => ?_) (fun h6 => ?_)
      · try have d6 := of_decide_eq_true h6
        refine gn h6 rfl rfl rfl ?_
        refine gn h6 rfl rfl rfl ?_
        refine xo (q_pick_t rfl h6 rfl) rfl ?_
        refine xs rfl rfl ?_
        refine nl ?_
        (repeat first | refine et ?_ | refine eb ?_)
        (repeat refine sq ?_)
        refine ev_cond_kt rfl rfl ?_
        (repeat refine sq ?_)
        refine ev_drawq [8] mo ?_
        refine rdk_take 0 rfl (by kernel_rfl) trivial (q_fieldAddr ttOk rfl) rfl ?_
        first | refine rdk_take 1 rfl (by kernel_rfl) trivial (q_load_pr ttOk rfl rfl rfl rfl (get_map (by omega)) rfl rfl) rfl ?_ | refine rdk_take 1 rfl (by kernel_rfl) trivial (q_load ttOk rfl) rfl ?_
        refine rdk_take 2 rfl (by kernel_rfl) trivial (q_fieldAddr ttOk rfl) rfl ?_
        first | refine rdk_take 3 rfl (by kernel_rfl) trivial (q_load_pr ttOk rfl rfl rfl rfl (get_map (by omega)) rfl rfl) rfl ?_ | refine rdk_take 3 rfl (by kernel_rfl) trivial (q_load ttOk rfl) rfl ?_
        refine rdk_take 4 rfl (by kernel_rfl) trivial (q_fieldAddr ttOk rfl) rfl ?_
        first | refine rdk_take 5 rfl (by kernel_rfl) trivial (q_load_pr ttOk rfl rfl rfl rfl (get_map (by omega)) rfl rfl) rfl ?_ | refine rdk_take 5 rfl (by kernel_rfl) trivial (q_load ttOk rfl) rfl ?_
        refine rdk_one 6 (by kernel_rfl) ?_
        refine rdo_call (nm := 47) rfl trivial (cf rfl) (c_l1Copy _ (by omega)) (rs_of rfl) rfl rfl rfl ?_
        refine rdk_take 7 rfl (by kernel_rfl) trivial (q_ix_rt (m := (d.wait[k]'(by omega)).1.toNat) ttOk rfl rfl rfl rfl rfl (by omega) (by rw [List.length_map]; omega)) rfl ?_
        refine rdk_one 8 (by kernel_rfl) ?_
        refine rdo_brk rfl rfl trivial (e_st_pr ttOk rfl rfl rfl rfl rfl rfl rfl (get_map (by omega)) rfl rfl rfl rfl rfl) ?_
        refine rdb_endq (by kernel_rfl) ?_
        (repeat first | refine et ?_ | refine eb ?_)
        (repeat refine sq ?_)
        refine ev_pr [1, 2, 3, 6, 7, 8, 9, 10, 15, 16, 17, 18, 19, 20, 21, 22, 23, 24, 25, 26, 27, 28, 29, 30, 31, 32, 33, 34, 35, 36, 37, 38, 39, 40, 41, 42, 43, 44, 45, 46, 47, 48, 49, 50, 51, 52, 53, 54, 55, 56, 57, 58, 59, 60, 61, 62, 63, 64, 65, 66] rfl ?_
        refine rg ?_
        refine xm rfl rfl ?_
        refine xa rfl rfl rfl (by omega) rfl ?_
        refine xs rfl rfl ?_
        refine nl ?_
        (repeat first | refine et ?_ | refine eb ?_)
        (repeat first | refine et ?_ | refine eb ?_)
        refine eve_round (k + 1) [] ?hp ⟨by (repeat first | exact trivial | refine ⟨rfl, ?_⟩), by (repeat first | exact trivial | refine ⟨rfl, ?_⟩), ⟨⟨_, rfl, by (first | (exact fall_kept (by omega) (by simp_all)) | (exfalso; simp_all; done))⟩, trivial⟩, by (repeat first | exact trivial | refine ⟨⟨_, rfl, rfl⟩, ?_⟩), rfl⟩
        case hp => exact ⟨by omega, by omega⟩
      · try have d6 := of_decide_eq_false h6
        refine gm h6 rfl rfl rfl rfl ?_
        refine go h6 rfl rfl (q_bin ttOk rfl) rfl ?_
        refine xo (q_pick_f rfl h6 rfl) rfl ?_
        refine xs rfl rfl ?_
        refine nl ?_
        (repeat first | refine et ?_ | refine eb ?_)
        (repeat refine sq ?_)
        refine ev_cond rfl (fun h7 => ?_) (fun h7 => ?_)
        · try have d7 := of_decide_eq_true h7
          (repeat refine sq ?_)
          refine ev_drawq [8] mo ?_
          refine rdk_take 0 rfl (by kernel_rfl) trivial (q_fieldAddr ttOk rfl) rfl ?_
          first | refine rdk_take 1 rfl (by kernel_rfl) trivial (q_load_pr ttOk rfl rfl rfl rfl (get_map (by omega)) rfl rfl) rfl ?_ | refine rdk_take 1 rfl (by kernel_rfl) trivial (q_load ttOk rfl) rfl ?_
          refine rdk_take 2 rfl (by kernel_rfl) trivial (q_fieldAddr ttOk rfl) rfl ?_
          first | refine rdk_take 3 rfl (by kernel_rfl) trivial (q_load_pr ttOk rfl rfl rfl rfl (get_map (by omega)) rfl rfl) rfl ?_ | refine rdk_take 3 rfl (by kernel_rfl) trivial (q_load ttOk rfl) rfl ?_
          refine rdk_take 4 rfl (by kernel_rfl) trivial (q_fieldAddr ttOk rfl) rfl ?_
          first | refine rdk_take 5 rfl (by kernel_rfl) trivial (q_load_pr ttOk rfl rfl rfl rfl (get_map (by omega)) rfl rfl) rfl ?_ | refine rdk_take 5 rfl (by kernel_rfl) trivial (q_load ttOk rfl) rfl ?_
          refine rdk_one 6 (by kernel_rfl) ?_
          refine rdo_call (nm := 47) rfl trivial (cf rfl) (c_l1Copy _ (by omega)) (rs_of rfl) rfl rfl rfl ?_
          refine rdk_take 7 rfl (by kernel_rfl) trivial (q_ix_rt (m := (d.wait[k]'(by omega)).1.toNat) ttOk rfl rfl rfl rfl rfl (by omega) (by rw [List.length_map]; omega)) rfl ?_
          refine rdk_one 8 (by kernel_rfl) ?_
          refine rdo_brk rfl rfl trivial (e_st_pr ttOk rfl rfl rfl rfl rfl rfl rfl (get_map (by omega)) rfl rfl rfl rfl rfl) ?_
          refine rdb_endq (by kernel_rfl) ?_
          (repeat first | refine et ?_ | refine eb ?_)
          (repeat refine sq ?_)
          refine ev_pr [1, 2, 3, 6, 7, 8, 9, 10, 15, 16, 17, 18, 19, 20, 21, 22, 23, 24, 25, 26, 27, 28, 29, 30, 31, 32, 33, 34, 35, 36, 37, 38, 39, 40, 41, 42, 43, 44, 45, 46, 47, 48, 49, 50, 51, 52, 53, 54, 55, 56, 57, 58, 59, 60, 61, 62, 63, 64, 65, 66] rfl ?_
          refine rg ?_
          refine xm rfl rfl ?_
          refine xa rfl rfl rfl (by omega) rfl ?_
          refine xs rfl rfl ?_
          refine nl ?_
          (repeat first | refine et ?_ | refine eb ?_)
          (repeat first | refine et ?_ | refine eb ?_)
          refine eve_round (k + 1) [] ?hp ⟨by (repeat first | exact trivial | refine ⟨rfl, ?_⟩), by (repeat first | exact trivial | refine ⟨rfl, ?_⟩), ⟨⟨_, rfl, by (first | (exact fall_kept (by omega) (by simp_all)) | (exfalso; simp_all; done))⟩, trivial⟩, by (repeat first | exact trivial | refine ⟨⟨_, rfl, rfl⟩, ?_⟩), rfl⟩
          case hp => exact ⟨by omega, by omega⟩
        · try have d7 := of_decide_eq_false h7
          (repeat refine sq ?_)
          refine rg ?_
          refine xm rfl rfl ?_
          refine xb ttOk rfl rfl ?_
          refine xs rfl rfl ?_
          refine nl ?_
          (repeat first | refine et ?_ | refine eb ?_)
          (repeat refine sq ?_)
          refine ev_cond rfl (fun h8 => ?_) (fun h8 => ?_)
          · try have d8 := of_decide_eq_true h8
            (repeat refine sq ?_)
            refine ev_pr [1, 2, 3, 6, 7, 8, 9, 10, 15, 16, 17, 18, 19, 20, 21, 22, 23, 24, 25, 26, 27, 28, 29, 30, 31, 32, 33, 34, 35, 36, 37, 38, 39, 40, 41, 42, 43, 44, 45, 46, 47, 48, 49, 50, 51, 52, 53, 54, 55, 56, 57, 58, 59, 60, 61, 62, 63, 64, 65, 66] rfl ?_
            refine ev_drawq [14] mo ?_
            refine rdk_take 0 rfl (by kernel_rfl) trivial (q_fieldAddr ttOk rfl) rfl ?_
            first | refine rdk_take 1 rfl (by kernel_rfl) trivial (q_load_pr ttOk rfl rfl rfl rfl (get_map (by omega)) rfl rfl) rfl ?_ | refine rdk_take 1 rfl (by kernel_rfl) trivial (q_load ttOk rfl) rfl ?_
            refine rdk_take 2 rfl (by kernel_rfl) trivial (q_fieldAddr ttOk rfl) rfl ?_
            first | refine rdk_take 3 rfl (by kernel_rfl) trivial (q_load_pr ttOk rfl rfl rfl rfl (get_map (by omega)) rfl rfl) rfl ?_ | refine rdk_take 3 rfl (by kernel_rfl) trivial (q_load ttOk rfl) rfl ?_
            refine rdk_take 4 rfl (by kernel_rfl) trivial (q_fieldAddr ttOk rfl) rfl ?_
            first | refine rdk_take 5 rfl (by kernel_rfl) trivial (q_load_pr ttOk rfl rfl rfl rfl (get_map (by omega)) rfl rfl) rfl ?_ | refine rdk_take 5 rfl (by kernel_rfl) trivial (q_load ttOk rfl) rfl ?_
            refine rdk_take 6 rfl (by kernel_rfl) trivial (q_fieldAddr ttOk rfl) rfl ?_
            first | refine rdk_take 7 rfl (by kernel_rfl) trivial (q_load_pr ttOk rfl rfl rfl rfl (get_map (by omega)) rfl rfl) rfl ?_ | refine rdk_take 7 rfl (by kernel_rfl) trivial (q_load ttOk rfl) rfl ?_
            refine rdk_take 8 rfl (by kernel_rfl) trivial (q_fieldAddr ttOk rfl) rfl ?_
            first | refine rdk_take 9 rfl (by kernel_rfl) trivial (q_load_pr ttOk rfl rfl rfl rfl (get_map (by omega)) rfl rfl) rfl ?_ | refine rdk_take 9 rfl (by kernel_rfl) trivial (q_load ttOk rfl) rfl ?_
            refine rdk_take 10 rfl (by kernel_rfl) trivial (q_ix_rt (m := (d.wait[k]'(by omega)).1.toNat) ttOk rfl rfl rfl rfl rfl (by omega) (by rw [List.length_map]; omega)) rfl ?_
            first | refine rdk_take 11 rfl (by kernel_rfl) trivial (q_load_pr ttOk rfl rfl rfl rfl (get_map (by omega)) rfl rfl) rfl ?_ | refine rdk_take 11 rfl (by kernel_rfl) trivial (q_load ttOk rfl) rfl ?_
            refine rdk_one 12 (by kernel_rfl) ?_
            refine rdo_call (nm := 64) rfl trivial (cf rfl) (c_l3Torn (d.wait[k]'(by omega)).2 ((fallUp d F all k)[(d.wait[k]'(by omega)).1.toNat]'(by omega)) ⟨by omega, hrw _ (List.getElem_mem _)⟩) (rs_c_sub rfl rfl rfl (get_map (by omega)) rfl) rfl rfl rfl ?_
            refine rdk_take 13 rfl (by kernel_rfl) trivial (q_ix_rt (m := (d.wait[k]'(by omega)).1.toNat) ttOk rfl rfl rfl rfl rfl (by omega) (by rw [List.length_map]; omega)) rfl ?_
            refine rdk_one 14 (by kernel_rfl) ?_
            refine rdo_brk rfl rfl trivial (eff_flt 101 (e_st_pr ttOk rfl rfl rfl rfl rfl rfl rfl (get_map (by omega)) rfl rfl rfl rfl rfl)) ?_
            refine rdb_endq (by kernel_rfl) ?_
            (repeat first | refine et ?_ | refine eb ?_)
            (repeat refine sq ?_)
            refine rg ?_
            refine xm rfl rfl ?_
            refine xa rfl rfl rfl (by omega) rfl ?_
            refine xs rfl rfl ?_
            refine nl ?_
            (repeat first | refine et ?_ | refine eb ?_)
            (repeat first | refine et ?_ | refine eb ?_)
            refine eve_round (k + 1) [] ?hp ⟨by (repeat first | exact trivial | refine ⟨rfl, ?_⟩), by (repeat first | exact trivial | refine ⟨rfl, ?_⟩), ⟨⟨_, rfl, by (first | (exact fall_torn (by omega) (by simp_all) (by simp_all) (by rw [fallUp_len]; omega)) | (exfalso; simp_all; done))⟩, trivial⟩, by (repeat first | exact trivial | refine ⟨⟨_, rfl, rfl⟩, ?_⟩), rfl⟩
            case hp => exact ⟨by omega, by omega⟩
          · try have d8 := of_decide_eq_false h8
            (repeat refine sq ?_)
            refine ev_skip ?_
            (repeat first | refine et ?_ | refine eb ?_)
            (repeat refine sq ?_)
            refine ev_pr [1, 2, 3, 6, 7, 8, 9, 10, 15, 16, 17, 18, 19, 20, 21, 22, 23, 24, 25, 26, 27, 28, 29, 30, 31, 32, 33, 34, 35, 36, 37, 38, 39, 40, 41, 42, 43, 44, 45, 46, 47, 48, 49, 50, 51, 52, 53, 54, 55, 56, 57, 58, 59, 60, 61, 62, 63, 64, 65, 66] rfl ?_
            refine rg ?_
            refine xm rfl rfl ?_
            refine xa rfl rfl rfl (by omega) rfl ?_
            refine xs rfl rfl ?_
            refine nl ?_
            (repeat first | refine et ?_ | refine eb ?_)
            (repeat first | refine et ?_ | refine eb ?_)
            refine eve_round (k + 1) [] ?hp ⟨by (repeat first | exact trivial | refine ⟨rfl, ?_⟩), by (repeat first | exact trivial | refine ⟨rfl, ?_⟩), ⟨⟨_, rfl, by (first | (exact fall_lost (by simp_all) (by simp_all)) | (exfalso; simp_all; done))⟩, trivial⟩, by (repeat first | exact trivial | refine ⟨⟨_, rfl, rfl⟩, ?_⟩), rfl⟩
            case hp => exact ⟨by omega, by omega⟩
  · try have d1 := of_decide_eq_false h1
    (repeat refine sq ?_)
    refine ev_exit ?_
    (repeat first | refine evx_then ?_ | refine evx_hit ?_ | refine evx_miss rfl ?_)
    (repeat first | refine et ?_ | refine eb ?_)
    (repeat refine sq ?_)
    refine rg ?_
    first | refine xo (q_load_pr ttOk rfl rfl rfl rfl (get_map (by omega)) rfl rfl) rfl ?_ | refine xl ttOk rfl rfl ?_
    refine xst ttOk rfl ?_ rfl
    refine nl ?_
    (repeat first | refine et ?_ | refine eb ?_)
    (repeat refine sq ?_)
    refine ev_ret ?_
    (repeat first | refine evr_then ?_ | refine evr_blk ?_)
    refine ret_pureN ttOk rfl rfl ?_
    obtain rfl : k = d.wait.length := by omega
    simp [RpLe, L2, RcLe]

end Go.Proofs.YtpbhcdgdabfhfaaGreat
