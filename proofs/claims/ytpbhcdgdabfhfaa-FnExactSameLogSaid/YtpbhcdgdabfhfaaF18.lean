/- Walks of functions of the program, printed by a program of the prover. -/
import Derived.Test.YtpbhcdgdabfhfaaF17
namespace Go.Proofs.Ytpbhcdgdabfhfaa
open Go.ChangeShapes Go.WideShapes Go.ChangeAt Go.RowKit
set_option linter.unusedVariables false
set_option linter.unusedSimpArgs false
set_option maxHeartbeats 1000000
set_option maxRecDepth 100000
attribute [local irreducible] EvL Ev EvE Quiet Eff Pure RDk RDb RDo
theorem sumN_lenS : ∀ W : List (Int × List Int), sumN lenS W = W.length + sumN (fun x => x.2.length) W
  | [] => rfl
  | x :: W => by
    have := sumN_lenS W
    simp only [sumN, List.map_cons, List.sum_cons, List.length_cons, lenS] at *
    omega
theorem smD_of {d : Disk} (h : diskN d ≤ 1048576) : smD d := by
  have := sumN_lenS d.wait
  unfold diskN rowsN writesN at h
  exact ⟨by omega, by omega, by unfold mkN; omega⟩
theorem smT_of {t : Two} (h : twoN t ≤ 1048576) : smT t := ⟨smD_of (by unfold twoN at h; omega), smD_of (by unfold twoN at h; omega)⟩
theorem rowHead_len (l : List Int) : ((rowHeadF l).getD noHead).seen.length ≤ 4 := by
  unfold rowHeadF
  split
  · exact seenUp_len l 4
  · simp [noHead]
theorem headFold_len (k : Int) : ∀ (L : List (List Int)) (a : Head × Bool), a.1.seen.length ≤ 4 → (L.foldl (headStep k) a).1.seen.length ≤ 4
  | [], a, h => h
  | r :: L, a, h => headFold_len k L _ (by
    unfold headStep
    split
    · exact rowHead_len r
    · exact h)
theorem headIn_len (t : Two) : (headIn t).1.seen.length ≤ 4 := by
  unfold headIn
  split
  · exact headFold_len _ _ _ (headFold_len _ _ _ (by simp [headUp, noHead]))
  · simp [noHead]
theorem L_HeadIn (t : Two) : Pure Try.prog 4 [many (twoC t)] (bR true) := by
  refine pure_intro (N := 96) Try.func4 rfl rfl rfl rfl (fun H w => ?_)
  (repeat refine sq ?_)
  refine rg ?_
  refine evl_e (e_box rfl rfl rfl rfl) ?_
  refine xs rfl rfl ?_
  refine nl ?_
  (repeat first | refine et ?_ | refine eb ?_)
  (repeat refine sq ?_)
  refine rg ?_
  refine xs rfl rfl ?_
  refine nl ?_
  (repeat first | refine et ?_ | refine eb ?_)
  (repeat refine sq ?_)
  refine rg ?_
  refine xl ttOk rfl rfl ?_
  refine xm rfl rfl ?_
  refine evl_call (nm := 16) (cf rfl) (z_two t _ (by omega)) (rs_of rfl) rfl rfl rfl ?_
  refine xs rfl rfl ?_
  refine nl ?_
  (repeat first | refine et ?_ | refine eb ?_)
  (repeat refine sq ?_)
  refine rg ?_
  refine xm rfl rfl ?_
  refine xb ttOk rfl rfl ?_
  refine nl ?_
  (repeat first | refine et ?_ | refine eb ?_)
  (repeat refine sq ?_)
  refine ev_cond rfl (fun h1 => ?_) (fun h1 => ?_)
  · have d1 := of_decide_eq_true h1
    (repeat refine sq ?_)
    refine rg ?_
    refine xs rfl rfl ?_
    refine nl ?_
    (repeat first | refine et ?_ | refine eb ?_)
    (repeat refine sq ?_)
    refine ev_ret ?_
    (repeat first | refine evr_then ?_ | refine evr_blk ?_)
    refine ret_pure' ttOk rfl rfl ?_
    rfl
  · have d1 := of_decide_eq_false h1
    have e1 := szB_pos d1
    have hT : twoN t ≤ 1048576 := by omega
    have hsm := smT_of hT
    have hl4 := headIn_len t
    (repeat refine sq ?_)
    refine ev_skip ?_
    (repeat first | refine et ?_ | refine eb ?_)
    (repeat refine sq ?_)
    refine rg ?_
    refine xl ttOk rfl rfl ?_
    refine evl_call (nm := 21) (cf rfl) (t_two t (by assumption)) (rs_of rfl) rfl rfl rfl ?_
    refine evl_call (nm := 22) (cf rfl) (c_HeadIn t) (rs_of rfl) rfl rfl rfl ?_
    refine xm rfl rfl ?_
    refine xo (q_ext rfl) rfl ?_
    refine xo (q_ext rfl) rfl ?_
    refine evl_e (e_alloc ttOk rfl rfl rfl rfl) ?_
    refine xst ttOk rfl ?_ rfl
    refine xs rfl rfl ?_
    refine nl ?_
    (repeat first | refine et ?_ | refine eb ?_)
    (repeat refine sq ?_)
    refine rg ?_
    refine xl ttOk rfl rfl ?_
    refine evl_call (nm := 26) (cf rfl) (t_two t (by assumption)) (rs_of rfl) rfl rfl rfl ?_
    refine evl_e (e_alloc ttOk rfl rfl rfl rfl) ?_
    refine xst ttOk rfl ?_ rfl
    refine nl ?_
    (repeat first | refine et ?_ | refine eb ?_)
    (repeat refine sq ?_)
    refine rg ?_
    refine xl ttOk rfl rfl ?_
    refine evl_call (nm := 29) (cf rfl) (c_HeadIn' t) (rs_of rfl) rfl rfl rfl ?_
    refine xm rfl rfl ?_
    refine xo (q_ext rfl) rfl ?_
    refine xo (q_ext rfl) rfl ?_
    refine evl_e (e_alloc ttOk rfl rfl rfl rfl) ?_
    refine xst ttOk rfl ?_ rfl
    refine xs rfl rfl ?_
    refine nl ?_
    (repeat first | refine et ?_ | refine eb ?_)
    (repeat refine sq ?_)
    refine ev_pr [1, 2, 4, 5, 6, 7, 8, 9, 10, 11, 12, 13, 32, 33, 34, 35, 36, 37, 38, 39, 40, 41, 42, 43, 44, 45, 46, 47, 48, 49, 50, 51, 52, 53, 54, 55, 56, 57, 58, 59, 60, 61, 62, 63, 64, 65, 66, 67, 68, 69, 70, 71, 72, 73, 74, 75, 76, 77, 78, 79, 80, 81, 82, 83, 84, 85, 86, 87, 88, 89, 90, 91, 92, 93, 94, 95] rfl ?_
    refine rg ?_
    refine xl ttOk rfl rfl ?_
    refine xl ttOk rfl rfl ?_
    refine evl_call (nm := 34) (cf rfl) (e_head (headIn t).1) (rs_of rfl) rfl rfl rfl ?_
    refine xo (q_notL rfl) rfl ?_
    refine xm rfl rfl ?_
    refine gm rfl rfl rfl rfl rfl ?_
    refine gm rfl rfl rfl rfl rfl ?_
    refine go rfl rfl rfl (q_bin ttOk rfl) rfl ?_
    refine xo (q_pick_f rfl rfl rfl) rfl ?_
    refine nl ?_
    (repeat first | refine et ?_ | refine eb ?_)
    (repeat refine sq ?_)
    refine ev_cond_kf rfl (by simp) ?_
    (repeat refine sq ?_)
    refine ev_skip ?_
    (repeat first | refine et ?_ | refine eb ?_)
    (repeat refine sq ?_)
    refine ev_drawq [] mo ?_
    refine rdk_take 0 rfl (by kernel_rfl) trivial (q_load ttOk rfl) rfl ?_
    refine rdk_take 1 rfl (by kernel_rfl) trivial (q_load ttOk rfl) rfl ?_
    refine rdk_one 2 (by kernel_rfl) ?_
    refine rdo_call (nm := 43) rfl trivial (cf rfl) (t_two t (by assumption)) (rs_of rfl) rfl rfl rfl ?_
    refine rdk_one 3 (by kernel_rfl) ?_
    refine rdo_call (nm := 44) rfl trivial (cf rfl) (e_two t) (rs_of rfl) rfl rfl rfl ?_
    refine rdk_take 4 rfl (by kernel_rfl) trivial (q_notL rfl) rfl ?_
    refine rdk_endq (by kernel_rfl) ?_
    (repeat first | refine et ?_ | refine eb ?_)
    (repeat refine sq ?_)
    refine ev_cond_kf rfl rfl ?_
    (repeat refine sq ?_)
    refine ev_skip ?_
    (repeat first | refine et ?_ | refine eb ?_)
    (repeat refine sq ?_)
    refine rg ?_
    refine xs rfl rfl ?_
    refine nl ?_
    (repeat first | refine et ?_ | refine eb ?_)
    (repeat refine sq ?_)
    refine rg ?_
    refine xl ttOk rfl rfl ?_
    refine xm rfl rfl ?_
    refine evl_mark (cf rfl) rfl rfl rfl (m_two _ _ _ _ ⟨⟨_, _⟩, ⟨_, _⟩⟩ _ (by omega) (by assumption)) rfl rfl rfl ?_
    refine xs rfl rfl ?_
    refine nl ?_
    (repeat first | refine et ?_ | refine eb ?_)
    (repeat refine sq ?_)
    refine rg ?_
    refine xm rfl rfl ?_
    refine xb ttOk rfl rfl ?_
    refine xm rfl rfl ?_
    refine go (decide_eq_false (by omega)) rfl rfl (q_load ttOk rfl) rfl ?_
    refine go (decide_eq_false (by omega)) rfl rfl (q_load ttOk rfl) rfl ?_
    refine evl_callg rfl rfl (decide_eq_false (by omega)) (nm := 54) (cf rfl) (e_head (headIn t).1) (rs_of rfl) rfl rfl rfl ?_
    refine go (decide_eq_false (by omega)) rfl rfl (q_notL rfl) rfl ?_
    refine xo (q_pick_f rfl (decide_eq_false (by omega)) rfl) rfl ?_
    refine xm rfl rfl ?_
    refine gm rfl rfl rfl rfl rfl ?_
    refine gm rfl rfl rfl rfl rfl ?_
    refine go rfl rfl rfl (q_bin ttOk rfl) rfl ?_
    refine xo (q_pick_f rfl rfl rfl) rfl ?_
    refine nl ?_
    (repeat first | refine et ?_ | refine eb ?_)
    (repeat refine sq ?_)
    refine ev_cond_kf rfl (by simp) ?_
    (repeat refine sq ?_)
    refine ev_skip ?_
    (repeat first | refine et ?_ | refine eb ?_)
    (repeat refine sq ?_)
    refine ev_pr [1, 2, 4, 5, 7, 10, 11, 12, 13, 62, 63, 64, 65, 66, 67, 68, 69, 70, 71, 72, 73, 74, 75, 76, 77, 78, 79, 80, 81, 82, 83, 84, 85, 86, 87, 88, 89, 90, 91, 92, 93, 94, 95] rfl ?_
    refine rg ?_
    refine xs rfl rfl ?_
    refine nl ?_
    (repeat first | refine et ?_ | refine eb ?_)
    (repeat refine sq ?_)
    refine rg ?_
    refine xl ttOk rfl rfl ?_
    refine xm rfl rfl ?_
    refine evl_mark (cf rfl) rfl rfl rfl (m_head _ (headIn t).1 _ (by omega)) rfl rfl rfl ?_
    refine xs rfl rfl ?_
    refine nl ?_
    (repeat first | refine et ?_ | refine eb ?_)
    (repeat refine sq ?_)
    refine rg ?_
    refine xs rfl rfl ?_
    refine nl ?_
    (repeat first | refine et ?_ | refine eb ?_)
    (repeat refine sq ?_)
    refine rg ?_
    refine xl ttOk rfl rfl ?_
    refine xm rfl rfl ?_
    refine evl_call (nm := 67) (cf rfl) (h_head _ _ _ _ _ _ (by omega) (by omega)) (rs_of rfl) rfl rfl rfl ?_
    refine xs rfl rfl ?_
    refine nl ?_
    (repeat first | refine et ?_ | refine eb ?_)
    (repeat refine sq ?_)
    refine rg ?_
    refine xm rfl rfl ?_
    refine xb ttOk rfl rfl ?_
    refine nl ?_
    (repeat first | refine et ?_ | refine eb ?_)
    (repeat refine sq ?_)
    refine ev_cond_kf rfl (decide_eq_false (by omega)) ?_
    (repeat refine sq ?_)
    refine ev_skip ?_
    (repeat first | refine et ?_ | refine eb ?_)
    (repeat refine sq ?_)
    refine rg ?_
    refine xm rfl rfl ?_
    refine xm rfl rfl ?_
    refine xb ttOk rfl rfl ?_
    refine nl ?_
    (repeat first | refine et ?_ | refine eb ?_)
    (repeat refine sq ?_)
    refine ev_cond_kf rfl (decide_eq_false (by omega)) ?_
    (repeat refine sq ?_)
    refine ev_skip ?_
    (repeat first | refine et ?_ | refine eb ?_)
    (repeat refine sq ?_)
    refine rg ?_
    refine xl ttOk rfl rfl ?_
    refine evl_call (nm := 75) (cf rfl) (t_two t (by assumption)) (rs_of rfl) rfl rfl rfl ?_
    refine evl_call (nm := 76) (cf rfl) (c_HeadIn' t) (rs_of rfl) rfl rfl rfl ?_
    refine xm rfl rfl ?_
    refine xo (q_ext rfl) rfl ?_
    refine xo (q_ext rfl) rfl ?_
    refine evl_e (e_alloc ttOk rfl rfl rfl rfl) ?_
    refine xst ttOk rfl ?_ rfl
    refine xs rfl rfl ?_
    refine nl ?_
    (repeat first | refine et ?_ | refine eb ?_)
    (repeat refine sq ?_)
    refine rg ?_
    refine xl ttOk rfl rfl ?_
    refine xl ttOk rfl rfl ?_
    refine evl_call (nm := 81) (cf rfl) (e_head (headIn t).1) (rs_of rfl) rfl rfl rfl ?_
    refine xo (q_notL rfl) rfl ?_
    refine xm rfl rfl ?_
    refine gm rfl rfl rfl rfl rfl ?_
    refine gm rfl rfl rfl rfl rfl ?_
    refine go rfl rfl rfl (q_bin ttOk rfl) rfl ?_
    refine xo (q_pick_f rfl rfl rfl) rfl ?_
    refine nl ?_
    (repeat first | refine et ?_ | refine eb ?_)
    (repeat refine sq ?_)
    refine ev_cond_kf rfl (by simp) ?_
    (repeat refine sq ?_)
    refine ev_skip ?_
    (repeat first | refine et ?_ | refine eb ?_)
    (repeat refine sq ?_)
    refine ev_pr [2, 7, 10, 11, 88, 89, 90, 91, 92, 93, 94, 95] rfl ?_
    refine rg ?_
    refine xs rfl rfl ?_
    refine nl ?_
    (repeat first | refine et ?_ | refine eb ?_)
    (repeat refine sq ?_)
    refine rg ?_
    refine xl ttOk rfl rfl ?_
    refine xm rfl rfl ?_
    refine evl_call (nm := 90) (cf rfl) (h_head _ _ _ _ _ _ (by omega) (by omega)) (rs_of rfl) rfl rfl rfl ?_
    refine xs rfl rfl ?_
    refine nl ?_
    (repeat first | refine et ?_ | refine eb ?_)
    (repeat refine sq ?_)
    refine rg ?_
    refine xm rfl rfl ?_
    refine xb ttOk rfl rfl ?_
    refine nl ?_
    (repeat first | refine et ?_ | refine eb ?_)
    (repeat refine sq ?_)
    refine ev_cond_kf rfl (decide_eq_false (by omega)) ?_
    (repeat refine sq ?_)
    refine ev_skip ?_
    (repeat first | refine et ?_ | refine eb ?_)
    (repeat refine sq ?_)
    refine rg ?_
    refine xm rfl rfl ?_
    refine xm rfl rfl ?_
    refine xb ttOk rfl rfl ?_
    refine nl ?_
    (repeat first | refine et ?_ | refine eb ?_)
    (repeat refine sq ?_)
    refine ev_cond_kf rfl (decide_eq_false (by omega)) ?_
    (repeat refine sq ?_)
    refine ev_skip ?_
    (repeat first | refine et ?_ | refine eb ?_)
    (repeat refine sq ?_)
    refine rg ?_
    refine xs rfl rfl ?_
    refine nl ?_
    (repeat first | refine et ?_ | refine eb ?_)
    (repeat refine sq ?_)
    refine ev_ret ?_
    (repeat first | refine evr_then ?_ | refine evr_blk ?_)
    refine ret_pure' ttOk rfl rfl ?_
    rfl

end Go.Proofs.Ytpbhcdgdabfhfaa
