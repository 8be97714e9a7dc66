/- Walks of functions of the program, printed by a program of the prover. -/
import Derived.Test.YtahkjonokeifmaaKeF99
import Derived.Test.YtahkjonokeifmaaKeVL
namespace Go.Proofs.Ytahkjonokeifmaa
open Go.ChangeShapes Go.WideShapes Go.ChangeAt Go.RowKit
set_option linter.unusedVariables false
set_option linter.unusedSimpArgs false
set_option maxHeartbeats 1000000
set_option maxRecDepth 100000
attribute [local irreducible] EvL Ev EvE Quiet Eff Pure RDk RDb RDo
theorem take_len {α : Type} {l : List α} {m : Nat} (h : m ≤ l.length) : l.take (l.take m).length = l.take m := by
 rw [List.length_take, Nat.min_eq_left h]
theorem c_w9Same (l m : List Entry) : Pure Try.prog 38 [one (entries l), one (entries m)] (bR (eqN Entry.nums l m)) := by
 refine pure_intro (N := 26) Try.func38 rfl rfl rfl rfl (fun H w => ?_)
 refine ev_lenm (t := 0) rfl (fun hL => ?_)
 refine ev_lenm (t := 1) rfl (fun hM => ?_)
 refine sq (rg (xs rfl rfl (nl (et (sq (sq (rg (xm rfl rfl (xo (q_len_map ttOk rfl rfl) rfl (xm rfl rfl (xo (q_len_map ttOk rfl rfl) rfl (xb ttOk rfl rfl (nl (et (ev_cond rfl (fun h1 => ?_) (fun h1 => ?_))))))))))))))))
 ·have d1 := of_decide_eq_true h1
  refine sq (rg (xs rfl rfl (nl (et (ev_ret (evr_then (ret_pure' ttOk rfl rfl (congrArg bR (?_ : _ = _)))))))))
  rw [eqN_len d1]
 ·have d1 := of_decide_eq_false h1
  have hlen : l.length = m.length := by omega
  refine ev_skip (et (sq (sq (rg (xs rfl rfl (nl (et (ev_blk (ev_loop (fun k : Nat => (⟨[(5, iV k), (0, cV (entries l)), (1, cV (entries m))], [], [], []⟩ : St)) (fun k => k ≤ l.length ∧ (l.take k).map Entry.nums = (m.take k).map Entry.nums) (fun k => l.length - k) 0 [] (⟨by simp, by simp⟩) lei ?_)))))))))
  intro k hp
  obtain ⟨p0, p1⟩ := hp
  show Ev _ _ _ _ (⟨[(5, iV k), (0, cV (entries l)), (1, cV (entries m))], [], [], []⟩ : St)
  refine sq (sq (rg (xm rfl rfl (xm rfl rfl (xo (q_len_map ttOk rfl rfl) rfl (xb ttOk rfl rfl (nl (et (ev_cond rfl (fun h2 => ?_) (fun h2 => ?_))))))))))
  ·have d2 := of_decide_eq_true h2
   refine ev_skip (et (sq (ev_blk (sq (ev_drawq [] mo (rk0 0 rfl (q_move rfl) rfl (rk0 1 rfl (q_move rfl) rfl (rk0 2 rfl (q_ix_map ttOk rfl rfl rfl rfl om) rfl (rk0 3 rfl (q_load ttOk rfl) rfl (rk0 4 rfl (q_move rfl) rfl (rk0 5 rfl (q_move rfl) rfl (rk0 6 rfl (q_ix_map ttOk rfl rfl rfl rfl om) rfl (rk0 7 rfl (q_load ttOk rfl) rfl ?_)))))))))))))
   first | refine rk0 8 rfl (q_eqT (n := 9) kr rfl rfl rfl rfl rfl rfl rfl) rfl ?_ | refine rk0 8 rfl (q_bin ttOk rfl) rfl ?_
   refine rdk_endq kr (et (ev_cond rfl (fun h3 => ?_) (fun h3 => ?_)))
   ·have d3 := of_decide_eq_true h3
    refine sq (rg (xs rfl rfl (nl (et (ev_ret (evr_blk (evr_then (evr_then (evr_blk (evr_then (ret_pure' ttOk rfl rfl (congrArg bR (?_ : _ = _)))))))))))))
    rw [eqN_at (k := k) om om d3]
   ·have d3 := of_decide_eq_false h3
    refine ev_skip (eb (et (rg (xm rfl rfl (xa rfl rfl rfl om rfl (xs rfl rfl (nl (eve_round (k + 1) [] ?hp lei))))))))
    case hp => exact ⟨⟨by omega, takeN om om p1 (Decidable.not_not.1 d3)⟩, by omega⟩
  ·have d2 := of_decide_eq_false h2
   refine ev_exit (evx_then (evx_then (evx_hit (et (sq (rg (xs rfl rfl (nl (et (ev_ret (ret_pure' ttOk rfl rfl (congrArg bR (?_ : _ = _)))))))))))))
   exact (takeN_all om hlen p1).symm
theorem c_w9Begins (x y : List Entry) (h : x.take y.length = y) : Pure Try.prog 15 [one (entries x), one (entries y)] (bR true) := by
 refine pure_intro (N := 18) Try.func15 rfl rfl rfl rfl (fun H w => ?_)
 have hle : y.length ≤ x.length := by rw [← h, List.length_take]; omega
 have sw : eqN Entry.nums (x.take y.length) y = true := by rw [h]; exact eqN_refl
 refine sq (rg (xs rfl rfl (nl (et (sq (rg (xm rfl rfl (xo (q_len_map ttOk rfl rfl) rfl (xm rfl rfl (xo (q_len_map ttOk rfl rfl) rfl (xb ttOk rfl rfl (xm rfl rfl (gm (decide_eq_true om) rfl rfl rfl rfl (gm (decide_eq_true om) rfl rfl rfl rfl (go (decide_eq_true om) rfl rfl (q_len_map ttOk rfl rfl) rfl (go (decide_eq_true om) rfl rfl (q_sl_to_map (k := y.length) ttOk rfl rfl rfl rfl om) rfl (gm (decide_eq_true om) rfl rfl rfl rfl (evl_callg rfl rfl (decide_eq_true om) (nm := 16) (cf rfl) (c_w9Same (x.take y.length) y) (rs_of rfl) rfl rfl rfl (xo (q_pick_t rfl (decide_eq_true om) rfl) rfl (xs rfl rfl (nl (et (ev_ret (ret_pure' ttOk rfl rfl ?_))))))))))))))))))))))))
 exact congrArg bR sw
theorem L_Kept (l : List Int) (hl : ∀ x ∈ l, 0 ≤ x ∧ x ≤ 255) : Pure Try.prog 3 [one (bytes l)] (bR true) := by
 refine pure_intro (N := 88) Try.func3 rfl rfl rfl rfl (fun H w => ?_)
 refine sq (rg (xs rfl rfl (nl (et (sq (sq (rg (xm rfl rfl (evl_call (nm := 12) (cf rfl) (c_big _) (rs_of rfl) rfl rfl rfl (nl (et (ev_cond rfl (fun h1 => ?_) (fun h1 => ?_)))))))))))))
 ·try have d1 := of_decide_eq_true h1
  refine sq (rg (xs rfl rfl (nl (et (ev_ret (evr_then (ret_pure' ttOk rfl rfl ?_)))))))
  rfl
 ·try have d1 := of_decide_eq_false h1
  have hn0 : ¬ (l.length : Int) > 4096 := of_decide_eq_false h1
  refine ev_skip (et (sq (rg (xm rfl rfl (evl_mkroll (cf rfl) (c_roll 914) rfl rfl hl om rfl rfl (fun g v0 δ0 hg hsrc => ?_))))))
  refine xs rfl rfl (nl (et (sq (rg (xm rfl rfl (evl_e (e_lit ttOk rfl rfl rfl) (xm rfl rfl (evl_roll (nm := 18) (cf rfl) (c_below _ om) rfl rfl hsrc (rs_of rfl) (fun _ => rfl) (fun y9 δ2 r2 => ?_)))))))))
  refine rlk rfl rfl rfl ?_
  obtain ⟨r2a, r2b⟩ := r2
  obtain ⟨m9, rfl⟩ := Int.eq_ofNat_of_zero_le r2a
  refine xa rfl rfl rfl om rfl (evl_roll (nm := 20) (cf rfl) (c_w9ListZ (1 + (m9 : Int)) (m9 + 1) om om) rfl rfl hsrc (rs_of rfl) (fun _ => rfl) (fun es δ3 r3 => ?_))
  refine rlk rfl rfl rfl ?_
  obtain ⟨hwl, hll⟩ := r3
  have hok9 := ents_ok (book_bd hwl.1).2.2.2.2
  refine xs rfl rfl (nl (et (sq (rg (xm rfl rfl (xm rfl rfl ?_))))))
  first | refine xo (q_len_rtm ttOk rfl rfl rfl) rfl ?_ | refine xo (q_len_map ttOk rfl rfl) rfl ?_
  refine xa rfl rfl rfl om rfl (evl_roll (nm := 25) (cf rfl) (c_below _ om) rfl rfl hsrc (rs_of rfl) (fun _ => rfl) (fun sy δ4 r4 => ?_))
  refine rlk rfl rfl rfl ?_
  obtain ⟨r4a, r4b⟩ := r4
  refine xs rfl rfl (nl (et (sq (ev_frs 20 rfl (fun H2 hH2 => ?_)))))
  have hsrc := hsrc.mono hH2
  refine ev_le (S' := ⟨[(14, pbV 14 0), (3, pbV 14 0), (4, cV (entries es)), (5, iV sy)], [(14, 55, diceA v0 δ4)], [], []⟩) [] lei ?_
  refine rg (evl_call (nm := 26) (cf rfl) c_NewKept' (rs_of rfl) rfl rfl rfl (xm rfl rfl (xm rfl rfl (evl_takec (nm := 29) (cf rfl) rfl rfl (c_w9Kept es sy hok9 om) rfl (rs_of rfl) rfl rfl rfl (evl_e (e_alloc ttOk rfl rfl rfl rfl) (xst ttOk rfl rfl (nl (et (sq ?_)))))))))
  obtain ⟨n, hkj, hn2⟩ := wk_log hwl (d := sy) ⟨by omega, by omega⟩
  refine ev_drawd [7] g mo (rdd_take 14 14 0 rfl kr trivial rfl rfl rfl rfl (q_load ttOk rfl) rfl rfl (rdd_pure 1 rfl kr trivial (qw_move rfl) rfl (rdd_pure 2 rfl kr trivial (qw_move rfl) rfl ?_)))
  first | refine rdd_take 14 14 3 rfl kr trivial rfl rfl rfl rfl (q_len_rtm ttOk rfl rfl rfl) rfl rfl ?_ | refine rdd_take 14 14 3 rfl kr trivial rfl rfl rfl rfl (q_len_map ttOk rfl rfl) rfl rfl ?_
  refine rdd_pure 4 rfl kr trivial (qw_ar rfl rfl rfl om) rfl (rdd_1 5 kr (rddo_roll (nm := 35) 14 rfl trivial rfl rfl (cf rfl) (c_w9FatesZ (2 * (es.length : Int)) (2 * es.length) om om) rfl rfl hsrc (rs_of rfl) (fun _ => rfl) (fun F δ5 r5 => ?_)))
  refine rdk rfl rfl rfl ?_
  have hF : F.length ≤ 1048576 := by have := r5; omega
  refine rdd_1 6 kr (rddo_call (nm := 36) rfl trivial (cf rfl) (c_BothFallen' (wkF es sy) F hF) (rs_of rfl) rfl rfl rfl (rdd_1 7 kr (rddo_brk rfl kr trivial (e_store ttOk rfl) (rdd_endq kr (et (sq ?_))))))
  generalize hu : bothFallenF (wkF es sy) F = u
  obtain ⟨A, B⟩ := u
  refine ev_drawd [13] g mo (rdd_pure 0 rfl kr trivial (qw_fieldAddr ttOk rfl) rfl (rdd_take 14 14 1 rfl kr trivial rfl rfl rfl rfl (q_load ttOk rfl) rfl rfl (rdd_pure 2 rfl kr trivial (qw_move rfl) rfl (rdd_pure 4 rfl kr trivial (qw_move rfl) rfl (rdd_pure 6 rfl kr trivial (qw_move rfl) rfl (rdd_1 3 kr (rddo_roll (nm := 41) 14 rfl trivial rfl rfl (cf rfl) (c_below _ om) rfl rfl hsrc (rs_of rfl) (fun _ => rfl) (fun rx δ6 r6 => ?_))))))))
  refine rdk rfl rfl rfl ?_
  obtain ⟨r6a, r6b⟩ := r6
  refine rdd_1 5 kr (rddo_roll (nm := 43) 14 rfl trivial rfl rfl (cf rfl) (c_below _ om) rfl rfl hsrc (rs_of rfl) (fun _ => rfl) (fun rp δ7 r7 => ?_))
  refine rdk rfl rfl rfl ?_
  obtain ⟨r7a, r7b⟩ := r7
  refine rdd_1 7 kr (rddo_roll (nm := 45) 14 rfl trivial rfl rfl (cf rfl) (c_below _ om) rfl rfl hsrc (rs_of rfl) (fun _ => rfl) (fun rv δ8 r8 => ?_))
  refine rdk rfl rfl rfl ?_
  obtain ⟨r8a, r8b⟩ := r8
  refine rdd_1 8 kr (rddo_call (nm := 46) rfl trivial (cf rfl) (c_Rotted' B rx rp rv) (rs_of rfl) rfl rfl rfl (rdd_pure 9 rfl kr trivial (qw_move rfl) rfl (rdd_pure 10 rfl kr trivial (qw_ext rfl) rfl (rdd_pure 11 rfl kr trivial (qw_ext rfl) rfl (rdd_pure 12 rfl kr trivial (qw_fieldAddr ttOk rfl) rfl (rdd_1 13 kr (rddo_brk rfl kr trivial (e_store ttOk rfl) (rdd_endq kr (et (sq ?_))))))))))
  obtain ⟨A1, B1, eAB, lA, lB, okB, m, hm1, hm2, hbk, hrec, hrest⟩ := hkj.k.rotted F (s := rx.toNat) (p := rp.toNat) (v := rv) om ⟨by omega, by omega⟩
  rw [hn2, hu] at eAB
  obtain ⟨rfl, rfl⟩ := Two.mk.inj eAB
  have hE : n.book.entries = es := by rw [hkj.book, List.take_of_length_le (Nat.le_refl _)]
  rw [hE] at hm2 hbk hrec hrest
  rw [hkj.dur] at hm1
  rw [rott_in okB ⟨by omega, by omega⟩ om ⟨by omega, by omega⟩]
  have cR := c_Recovered' ⟨A, rotD B rx.toNat rp.toNat rv⟩
  rw [hrec] at cR
  dsimp only at cR
  have hrl : (es.take m).length = m := by rw [List.length_take]; omega
  have hlast : lastB ⟨0, 0, es.take m⟩ ≥ sy := by show (0 : Int) + ((es.take m).length : Int) ≥ sy; rw [hrl]; omega
  have hdk : diskOk (recD noHead (es.take m)) = true := hrest.parts.2.1
  refine rg (xl ttOk rfl rfl (evl_call (nm := 52) (cf rfl) cR (rs_of rfl) rfl rfl rfl (xm rfl rfl (xo (q_ext rfl) rfl (xo (q_ext rfl) rfl (xo (q_ext rfl) rfl (xo (q_ext rfl) rfl (evl_e (e_alloc ttOk rfl rfl rfl rfl) (evl_e (e_alloc ttOk rfl rfl rfl rfl) (evl_e (e_alloc ttOk rfl rfl rfl rfl) (xst ttOk rfl rfl (xst ttOk rfl rfl (xst ttOk rfl rfl (xs rfl rfl (nl (et (sq (rg (xm rfl rfl (xm rfl rfl (go rfl rfl rfl (q_fieldAddr ttOk rfl) rfl (go rfl rfl rfl (q_load ttOk rfl) rfl (go rfl rfl rfl (q_bin ttOk rfl) rfl (xo (q_pick_t rfl rfl rfl) rfl (xm rfl rfl (go rfl rfl rfl (q_fieldAddr ttOk rfl) rfl (go rfl rfl rfl (q_load ttOk rfl) rfl (go rfl rfl rfl (q_bin ttOk rfl) rfl (xo (q_pick_t rfl rfl rfl) rfl (xm rfl rfl (go rfl rfl rfl (q_load ttOk rfl) rfl (evl_callg rfl rfl rfl (nm := 70) (cf rfl) (c_LastOf1 ⟨0, 0, es.take m⟩ hbk) (rs_of rfl) rfl rfl rfl (gm rfl rfl rfl rfl rfl (go rfl rfl rfl (q_bin ttOk rfl) rfl (xo (q_pick_t rfl rfl rfl) rfl (xm rfl rfl (gm (decide_eq_true hlast) rfl rfl rfl rfl (go (decide_eq_true hlast) rfl rfl (q_fieldAddr ttOk rfl) rfl (go (decide_eq_true hlast) rfl rfl (q_load ttOk rfl) rfl (evl_callg rfl rfl (decide_eq_true hlast) (nm := 78) (cf rfl) (c_w9Begins es (es.take m) (take_len hm2)) (rs_of rfl) rfl rfl rfl (xo (q_pick_t rfl (decide_eq_true hlast) rfl) rfl (xm rfl rfl (go rfl rfl rfl (q_load ttOk rfl) rfl (evl_callg rfl rfl rfl (nm := 82) (cf rfl) (c_BookOk' ⟨0, 0, es.take m⟩) (rs_of rfl) rfl rfl rfl (xo (q_pick_t rfl rfl rfl) rfl (xm rfl rfl (go hbk rfl rfl (q_load ttOk rfl) rfl (evl_callg rfl rfl hbk (nm := 86) (cf rfl) (c_EqualIn1 (recD noHead (es.take m)) hdk rfl) (rs_of rfl) rfl rfl rfl (xo (q_pick_t rfl hbk rfl) rfl (xs rfl rfl ?_))))))))))))))))))))))))))))))))))))))))))))))))))
  refine nl (et (ev_ret ?_))
  exact ret_lawH hg ttOk rfl rfl rfl
end Go.Proofs.Ytahkjonokeifmaa
