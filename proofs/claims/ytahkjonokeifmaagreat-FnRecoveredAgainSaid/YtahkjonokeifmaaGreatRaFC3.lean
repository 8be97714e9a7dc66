/- Walks of functions of the program, printed by a program of the prover. -/
import Derived.Test.YtahkjonokeifmaaGreatRaFC2
import Derived.Test.YtahkjonokeifmaaGreatRaVDL
namespace Go.Proofs.YtahkjonokeifmaaGreat.Cur
open Go.ChangeShapes Go.WideShapes Go.ChangeAt Go.RowKit
set_option linter.unusedVariables false
set_option linter.unusedSimpArgs false
set_option maxHeartbeats 1000000
set_option maxRecDepth 100000
attribute [local irreducible] EvL Ev EvE Quiet Eff Pure RDk RDb RDo
theorem newd_ok {x : Int} (h : 1 ≤ x ∧ x ≤ 40) : diskOk (newDiskF x) = true := by
 unfold newDiskF
 rw [if_pos h]
 simp only [diskOk, List.length_replicate, List.length_nil, Bool.and_eq_true, decide_eq_true_eq, List.all_eq_true]
 refine ⟨by omega, by omega, by omega, fun r hr => ?_, by simp⟩
 rw [(List.mem_replicate.1 hr).2]
 rfl
def idxB (l : List Entry) : Prop := ∀ e ∈ l, 0 ≤ e.index ∧ e.index ≤ 200
def seqB (S : List Int) (k : Nat) : Prop := ∀ x ∈ S, 0 ≤ x ∧ x ≤ 2 * k
theorem set_hereC {S : List Int} {q : Nat} {y : Int} (h : q < S.length) : ((S.set q y).map fun x => [iC x])[q]? = some [iC y] := by
 rw [List.getElem?_map, List.getElem?_set_self h]; rfl
theorem set_numC {S : List Int} {q : Nat} {y : Int} : ((S.set q y).map fun x => [iC x]) = (S.map fun x => [iC x]).set q [iC y] := by
 rw [List.map_set]
theorem c_l7DrawList (a z : Int) (m : Nat) (hz : z = m) (hm : m ≤ 10) (ha : 0 ≤ a ∧ a ≤ 100) : Rolls Tryz.prog 108 104 [one (iC a), one (iC z)] (α := List Entry) (fun l => l.length = m ∧ idxB l) (fun l => [one' (entriesR l)]) := by
 refine rolls_intro (N := 57) Tryz.func104 rfl rfl rfl rfl (fun H w g v0 bn δ0 hsrc => ?_)
 refine sq (rg (xs rfl rfl (nl (et (sq (rg (evl_e (e_lit ttOk rfl rfl rfl) (xs rfl rfl (nl (et (sq (rg (xm rfl rfl (evl_roll (nm := 14) (cf rfl) (c_l1Below _) rfl rfl hsrc (rs_of rfl) (fun _ => rfl) (fun yt0 δ1 r1 => ?_)))))))))))))))
 refine rlk rfl rfl rfl ?_
 obtain ⟨r1a, r1b⟩ := r1
 refine xs rfl rfl (nl (et (sq (rg (evl_e (e_make (m := 6) ttOk rfl rfl rfl rfl rfl rfl rfl om rfl rfl) (xs rfl rfl (nl (et (sq (sq (rg (xs rfl rfl (nl (et (ev_blk (ev_loop (fun i : Nat × List Entry × List Int × Int × DS bn => (⟨[(0, pbV 0 0), (1, iV a), (2, iV z), (8, iV i.2.2.2.1), (9, .p false [.rt 102]), (10, iV i.1), (7, .p false [.rt 101])], [(0, 108, diceA v0 i.2.2.2.2)], [(101, 62, 9, (i.2.1.map entryC)), (102, 2, 1, (i.2.2.1.map fun x => [iC x]))], []⟩ : St)) (fun i => i.1 ≤ m ∧ i.2.1.length = i.1 ∧ idxB i.2.1 ∧ i.2.2.1.length = 6 ∧ seqB i.2.2.1 i.1 ∧ 0 ≤ i.2.2.2.1 ∧ i.2.2.2.1 ≤ 9 + 5 * i.1) (fun i => m - i.1) (0, [], List.replicate 6 0, yt0, δ1) [(101, 12), (102, 15)] (⟨by simp, rfl, fun e he => by simp at he, by simp, fun x hx => by rw [(List.mem_replicate.1 hx).2]; omega, by dsimp only; omega, by dsimp only; omega⟩) ⟨trf, trf, ⟨⟨_, rfl, by rfl⟩, ⟨_, rfl, by rfl⟩, trivial⟩, tre, rfl⟩ ?_))))))))))))))))
 intro i hp
 obtain ⟨k, l, S, t, δ⟩ := i
 have hp : k ≤ m ∧ l.length = k ∧ idxB l ∧ S.length = 6 ∧ seqB S k ∧ 0 ≤ t ∧ t ≤ 9 + 5 * k := hp
 obtain ⟨p0, p1, p2, p3, p4, p5, p6⟩ := hp
 show Ev _ _ _ _ (⟨[(0, pbV 0 0), (1, iV a), (2, iV z), (8, iV t), (9, .p false [.rt 102]), (10, iV k), (7, .p false [.rt 101])], [(0, 108, diceA v0 δ)], [(101, 62, 9, (l.map entryC)), (102, 2, 1, (S.map fun x => [iC x]))], []⟩ : St)
 refine sq (sq (rg (xm rfl rfl (xm rfl rfl (xb ttOk rfl rfl (nl (et (ev_cond rfl (fun h2 => ?_) (fun h2 => ?_)))))))))
 ·try have d2 := of_decide_eq_true h2
  refine ev_skip (et (sq (ev_blk (sq (rg (xm rfl rfl (evl_roll (nm := 22) (cf rfl) c_l7Draw rfl rfl hsrc (rs_of rfl) (fun _ => rfl) (fun e δ3 r3 => ?_))))))))
  refine rlk rfl rfl rfl ?_
  obtain ⟨f1, f2, f3, f4, f5, f6, f7, f8, f9⟩ := e
  dsimp only at r3
  obtain ⟨q, rfl⟩ := Int.eq_ofNat_of_zero_le (show 0 ≤ f3 by omega)
  have hSq : S[q]'om ∈ S := List.getElem_mem om
  have hS := p4 _ hSq
  refine evl_e (e_alloc ttOk rfl rfl rfl rfl) (xst ttOk rfl rfl (nl (et (sq (rg (xm rfl rfl (xm rfl rfl (xa rfl rfl rfl om rfl (xf ttOk rfl rfl (xst ttOk rfl rfl (nl (et (sq (rg (xm rfl rfl (xm rfl rfl (evl_roll (nm := 29) (cf rfl) (c_l1Below _) rfl rfl hsrc (rs_of rfl) (fun _ => rfl) (fun yt δ4 r4 => ?_))))))))))))))))))
  refine rlk rfl rfl rfl ?_
  obtain ⟨r4a, r4b⟩ := r4
  refine xa rfl rfl rfl om rfl (xs rfl rfl (nl (et (sq (rg (xm rfl rfl (xf ttOk rfl rfl (xst ttOk rfl rfl (nl (et (sq (ev_drawd [13] g mo (rdd_pure 0 rfl kr trivial (qw_move rfl) rfl (rdd_pure 1 rfl kr trivial (qw_fieldAddr ttOk rfl) rfl (rdd_take 0 0 2 rfl kr trivial rfl rfl rfl rfl (q_load ttOk rfl) rfl rfl (rdd_pure 3 rfl kr trivial (qw_move rfl) rfl (rdd_pure 4 rfl kr trivial (qw_fieldAddr ttOk rfl) rfl (rdd_take 0 0 5 rfl kr trivial rfl rfl rfl rfl (q_load ttOk rfl) rfl rfl (rdd_take 0 0 6 rfl kr trivial rfl rfl rfl rfl (q_ix_rt (m := q) ttOk rfl rfl rfl rfl rfl rfl (by simp; omega)) rfl rfl (rdd_take 0 0 7 rfl kr trivial rfl rfl rfl rfl (q_load_pr ttOk rfl rfl rfl rfl (get_map om) rfl rfl) rfl rfl (rdd_pure 8 rfl kr trivial (qw_ar rfl rfl rfl om) rfl (rdd_pure 9 rfl kr trivial (qw_move rfl) rfl (rdd_1 10 kr (rddo_roll (nm := 43) 0 rfl trivial rfl rfl (cf rfl) (c_l1Below _) rfl rfl hsrc (rs_of rfl) (fun _ => rfl) (fun ys δ5 r5 => ?_)))))))))))))))))))))))))
  refine rdk rfl rfl rfl ?_
  obtain ⟨r5a, r5b⟩ := r5
  refine rdd_pure 11 rfl kr trivial (qw_ar rfl rfl rfl om) rfl (rdd_take 0 0 12 rfl kr trivial rfl rfl rfl rfl (q_ix_rt (m := q) ttOk rfl rfl rfl rfl rfl rfl (by simp; omega)) rfl rfl (rdd_1 13 kr (rddo_brk rfl kr trivial (e_st_pr ttOk rfl rfl rfl rfl rfl rfl rfl (get_map om) rfl set_numC rfl rfl rfl) (rdd_endq kr (et (sq (rg (xm rfl rfl (xf ttOk rfl rfl (xl ttOk rfl rfl (xo (q_ix_rt (m := q) ttOk rfl rfl rfl rfl rfl rfl (by simp; omega)) rfl (xo (q_load_pr ttOk rfl rfl rfl rfl (set_hereC om) rfl rfl) rfl (xf ttOk rfl rfl (xst ttOk rfl rfl (nl (et (rg (xm rfl rfl (xl ttOk rfl rfl (evl_e (e_lit ttOk rfl rfl rfl) (evl_e (e_app ttOk rfl rfl rfl rfl rfl rfl rfl (by simp; omega) rfl rfl) (xs rfl rfl (nl (eb (et (rg (xm rfl rfl (xa rfl rfl rfl om rfl (xs rfl rfl (nl (eve_round (k + 1, l ++ [⟨a + k, t + yt, q, S[q]'om + 1 + ys, f5, f6, f7, f8, f9⟩], S.set q (S[q]'om + 1 + ys), t + yt, δ5) [(101, 55)] ?hp ⟨trf, trf, ⟨⟨_, rfl, by simp⟩, ⟨_, rfl, by rfl⟩, trivial⟩, tre, rfl⟩)))))))))))))))))))))))))))))))
  case hp =>
   refine ⟨⟨by omega, by simp [p1], fun e he => ?_, by simp [p3], fun x hx => ?_, by dsimp only; omega, by dsimp only; omega⟩, by omega⟩
   ·rcases List.mem_append.1 he with he | he
    ·exact p2 e he
    ·rw [List.mem_singleton.1 he]; exact ⟨by show 0 ≤ a + (k : Int); omega, by show a + (k : Int) ≤ 200; omega⟩
   ·rcases List.mem_or_eq_of_mem_set hx with hx | hx
    ·have := p4 x hx; omega
    ·rw [hx]; omega
 ·try have d2 := of_decide_eq_false h2
  refine ev_exit (evx_then (evx_then (evx_hit (et (sq (rg (xm rfl rfl (xs rfl rfl (nl (et (ev_ret ?_)))))))))))
  obtain rfl : k = m := by omega
  refine ret_roll l δ ttOk rfl rfl rfl rfl ?_ ?_
  ·simp [RpLe, L2, RcLe]
  ·exact ⟨p1, p2⟩
end Go.Proofs.YtahkjonokeifmaaGreat.Cur
