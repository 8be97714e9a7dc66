/- Walks of functions of the program, printed by a program of the prover. -/
import Derived.Test.YtinmcdcmidlgpaaGreatDoorAkF12
import Derived.Test.YtinmcdcmidlgpaaGreatDoorAkVP
namespace Go.Proofs.YtinmcdcmidlgpaaGreatDoor
open Go.ChangeShapes Go.WideShapes Go.ChangeAt Go.RowKit
set_option linter.unusedVariables false
set_option linter.unusedSimpArgs false
set_option maxHeartbeats 1000000
set_option maxRecDepth 100000
attribute [local irreducible] EvL Ev EvE Quiet Eff Pure RDk RDb RDo
def sumN {α : Type} (f : α → Nat) (l : List α) : Nat := (l.map f).sum
theorem sumN_next {α : Type} {f : α → Nat} {l : List α} {k : Nat} (hk : k < l.length) : sumN f (l.take (k + 1)) = sumN f (l.take k) + f l[k] := by
 unfold sumN
 rw [List.take_succ_eq_append_getElem hk, List.map_append, List.sum_append]
 simp only [List.map_cons, List.map_nil, List.sum_cons, List.sum_nil, Nat.add_zero]
theorem sumN_le {α : Type} (f : α → Nat) : ∀ (l : List α) (k : Nat), sumN f (l.take k) ≤ sumN f l
 | [], k => by simp [sumN]
 | a :: l, 0 => by simp [sumN]
 | a :: l, k + 1 => by have := sumN_le f l k; simp only [sumN, List.take_succ_cons, List.map_cons, List.sum_cons] at *; omega
theorem sumN_all {α : Type} {f : α → Nat} {l : List α} {k : Nat} (hk : ¬ k < l.length) : sumN f (l.take k) = sumN f l := by rw [List.take_of_length_le om]
theorem sumN_mem {α : Type} {f : α → Nat} {l : List α} {k : Nat} (hk : k < l.length) : f l[k] ≤ sumN f l := by
 have := sumN_le f l (k + 1)
 rw [sumN_next hk] at this
 omega
def rowsN (K : List (List Int)) : Nat := K.length + sumN List.length K
def writesN (W : List (Int × List Int)) : Nat := W.length + sumN (fun x => x.2.length) W
def diskN (d : Disk) : Nat := rowsN d.kept + writesN d.wait
def twoN (t : Two) : Nat := diskN t.a + diskN t.b
def szB (z : Int) (n : Nat) : Int := if z < n then -1 else z - n
theorem szB_is {z v : Int} {n : Nat} (h1 : z < n → v = -1) (h2 : ¬ z < n → v = z - n) : v = szB z n := by unfold szB; split <;> simp_all
theorem szB_neg {z : Int} {n : Nat} (h : szB z n < 0) : z < n := by unfold szB at h; split at h <;> omega
theorem szB_pos {z : Int} {n : Nat} (h : ¬ szB z n < 0) : (n : Int) ≤ z ∧ szB z n = z - n := by unfold szB at *; split at h <;> omega
def mixR {α : Type} (f : α → List C) (z : List C) (l : List α) (k : Nat) : List (List C) := (l.take k).map f ++ List.replicate (l.length - k) z
theorem mixR_zero {α : Type} (f : α → List C) (z : List C) (l : List α) : List.replicate l.length z = mixR f z l 0 := by simp [mixR]
theorem mixR_len {α : Type} {f : α → List C} {z : List C} {l : List α} {k : Nat} (hk : k ≤ l.length) : (mixR f z l k).length = l.length := by simp [mixR]; omega
theorem mixR_at {α : Type} {f : α → List C} {z : List C} {l : List α} {k : Nat} (hk : k < l.length) : (mixR f z l k)[k]? = some z := by
 unfold mixR
 rw [List.getElem?_append_right (by simp; omega)]
 simp only [List.length_map, List.length_take, List.getElem?_replicate]
 rw [if_pos om]
theorem mixR_set {α : Type} {f : α → List C} {z : List C} {l : List α} {k : Nat} (hk : k < l.length) : mixR f z l (k + 1) = (mixR f z l k).set k (f l[k]) := by
 unfold mixR
 have h1 : ((l.take k).map f).length = k := by simp; omega
 rw [List.set_append_right _ _ om, h1, Nat.sub_self, List.take_succ_eq_append_getElem hk]
 have h2 : l.length - k = (l.length - (k + 1)) + 1 := by omega
 rw [h2, List.replicate_succ]
 simp only [List.map_append, List.map_cons, List.map_nil, List.set_cons_zero, List.append_assoc, List.cons_append, List.nil_append]
theorem mixR_all {α : Type} {f : α → List C} {z : List C} {l : List α} {k : Nat} (hk : ¬ k < l.length) : mixR f z l k = l.map f := by
 unfold mixR
 rw [List.take_of_length_le om, show l.length - k = 0 by omega]
 simp
theorem z_ints (l : List Int) (z : Int) (h : 0 ≤ z ∧ z ≤ 1048576) : Pure Tryz.prog 234 [one (ints l), one (iC z)] (iR (szB z l.length)) := by
 refine pure_intro (N := 12) Tryz.func234 rfl rfl rfl rfl (fun H w => ?_)
 refine ev_lenm (t := 0) rfl (fun hL => ?_)
 refine sq (rg (xs rfl rfl (nl (et (sq (rg (xm rfl rfl (xm rfl rfl (xo (q_len_map ttOk rfl rfl) rfl (xa rfl rfl rfl om rfl (xs rfl rfl (nl (et (sq (sq (rg (xm rfl rfl (xb ttOk rfl rfl (nl (et (ev_cond rfl (fun h1 => ?_) (fun h1 => ?_))))))))))))))))))))))
 ·have d1 := of_decide_eq_true h1
  refine sq (rg (xs rfl rfl (nl (et (ev_ret (evr_then (ret_pure' ttOk rfl rfl (congrArg iR (?_ : _ = _)))))))))
  exact szB_is (fun _ => by omega) (fun _ => by omega)
 ·have d1 := of_decide_eq_false h1
  refine ev_skip (et (sq (rg (xm rfl rfl (xs rfl rfl (nl (et (ev_ret (ret_pure' ttOk rfl rfl (congrArg iR (?_ : _ = _)))))))))))
  exact szB_is (fun _ => by omega) (fun _ => by omega)
theorem z_marks (l : List Mark) (z : Int) (h : 0 ≤ z ∧ z ≤ 1048576) : Pure Tryz.prog 50 [one (marks l), one (iC z)] (iR (szB z l.length)) := by
 refine pure_intro (N := 12) Tryz.func50 rfl rfl rfl rfl (fun H w => ?_)
 refine ev_lenm (t := 0) rfl (fun hL => ?_)
 refine sq (rg (xs rfl rfl (nl (et (sq (rg (xm rfl rfl (xm rfl rfl (xo (q_len_map ttOk rfl rfl) rfl (xa rfl rfl rfl om rfl (xs rfl rfl (nl (et (sq (sq (rg (xm rfl rfl (xb ttOk rfl rfl (nl (et (ev_cond rfl (fun h1 => ?_) (fun h1 => ?_))))))))))))))))))))))
 ·have d1 := of_decide_eq_true h1
  refine sq (rg (xs rfl rfl (nl (et (ev_ret (evr_then (ret_pure' ttOk rfl rfl (congrArg iR (?_ : _ = _)))))))))
  exact szB_is (fun _ => by omega) (fun _ => by omega)
 ·have d1 := of_decide_eq_false h1
  refine ev_skip (et (sq (rg (xm rfl rfl (xs rfl rfl (nl (et (ev_ret (ret_pure' ttOk rfl rfl (congrArg iR (?_ : _ = _)))))))))))
  exact szB_is (fun _ => by omega) (fun _ => by omega)
theorem z_entries (l : List Entry) (z : Int) (h : 0 ≤ z ∧ z ≤ 1048576) : Pure Tryz.prog 120 [one (entries l), one (iC z)] (iR (szB z l.length)) := by
 refine pure_intro (N := 12) Tryz.func120 rfl rfl rfl rfl (fun H w => ?_)
 refine ev_lenm (t := 0) rfl (fun hL => ?_)
 refine sq (rg (xs rfl rfl (nl (et (sq (rg (xm rfl rfl (xm rfl rfl (xo (q_len_map ttOk rfl rfl) rfl (xa rfl rfl rfl om rfl (xs rfl rfl (nl (et (sq (sq (rg (xm rfl rfl (xb ttOk rfl rfl (nl (et (ev_cond rfl (fun h1 => ?_) (fun h1 => ?_))))))))))))))))))))))
 ·have d1 := of_decide_eq_true h1
  refine sq (rg (xs rfl rfl (nl (et (ev_ret (evr_then (ret_pure' ttOk rfl rfl (congrArg iR (?_ : _ = _)))))))))
  exact szB_is (fun _ => by omega) (fun _ => by omega)
 ·have d1 := of_decide_eq_false h1
  refine ev_skip (et (sq (rg (xm rfl rfl (xs rfl rfl (nl (et (ev_ret (ret_pure' ttOk rfl rfl (congrArg iR (?_ : _ = _)))))))))))
  exact szB_is (fun _ => by omega) (fun _ => by omega)
theorem z_acks (l : List Ack) (z : Int) (h : 0 ≤ z ∧ z ≤ 1048576) : Pure Tryz.prog 51 [one (acks l), one (iC z)] (iR (szB z l.length)) := by
 refine pure_intro (N := 12) Tryz.func51 rfl rfl rfl rfl (fun H w => ?_)
 refine ev_lenm (t := 0) rfl (fun hL => ?_)
 refine sq (rg (xs rfl rfl (nl (et (sq (rg (xm rfl rfl (xm rfl rfl (xo (q_len_map ttOk rfl rfl) rfl (xa rfl rfl rfl om rfl (xs rfl rfl (nl (et (sq (sq (rg (xm rfl rfl (xb ttOk rfl rfl (nl (et (ev_cond rfl (fun h1 => ?_) (fun h1 => ?_))))))))))))))))))))))
 ·have d1 := of_decide_eq_true h1
  refine sq (rg (xs rfl rfl (nl (et (ev_ret (evr_then (ret_pure' ttOk rfl rfl (congrArg iR (?_ : _ = _)))))))))
  exact szB_is (fun _ => by omega) (fun _ => by omega)
 ·have d1 := of_decide_eq_false h1
  refine ev_skip (et (sq (rg (xm rfl rfl (xs rfl rfl (nl (et (ev_ret (ret_pure' ttOk rfl rfl (congrArg iR (?_ : _ = _)))))))))))
  exact szB_is (fun _ => by omega) (fun _ => by omega)
theorem z_write (x : Int × List Int) (z : Int) (h : 0 ≤ z ∧ z ≤ 1048576) : Pure Tryz.prog 235 [many [iC x.1, ints x.2], one (iC z)] (iR (szB z x.2.length)) := by
 refine pure_intro (N := 12) Tryz.func235 rfl rfl rfl rfl (fun H w => ?_)
 refine sq (rg (evl_e (e_box rfl rfl rfl rfl) (xs rfl rfl (nl (et (sq (rg (xf ttOk rfl rfl (xl ttOk rfl rfl (xm rfl rfl (evl_call (nm := 8) (cf rfl) (z_ints _ _ om) (rs_of rfl) rfl rfl rfl (xs rfl rfl (nl (et (sq (sq (rg (xm rfl rfl (xb ttOk rfl rfl (nl (et (ev_cond rfl (fun h1 => ?_) (fun h1 => ?_)))))))))))))))))))))))
 ·have d1 := of_decide_eq_true h1
  have e1 := szB_neg d1
  refine sq (rg (xs rfl rfl (nl (et (ev_ret (evr_then (ret_pure' ttOk rfl rfl (congrArg iR (?_ : _ = _)))))))))
  exact szB_is (fun _ => by omega) (fun _ => by omega)
 ·have d1 := of_decide_eq_false h1
  have e1 := szB_pos d1
  refine ev_skip (et (sq (rg (xm rfl rfl (xs rfl rfl (nl (et (ev_ret (ret_pure' ttOk rfl rfl (congrArg iR (?_ : _ = _)))))))))))
  exact szB_is (fun _ => by omega) (fun _ => by omega)
theorem z_rows (K : List (List Int)) (z : Int) (h : 0 ≤ z ∧ z ≤ 1048576) : Pure Tryz.prog 191 [one (rows K), one (iC z)] (iR (szB z (rowsN K))) := by
 refine pure_intro (N := 27) Tryz.func191 rfl rfl rfl rfl (fun H w => ?_)
 refine ev_lenm (t := 0) rfl (fun hL => ?_)
 refine sq (rg (xs rfl rfl (nl (et (sq (rg (xm rfl rfl (xm rfl rfl (xo (q_len_map ttOk rfl rfl) rfl (xa rfl rfl rfl om rfl (xs rfl rfl (nl (et (sq (sq (rg (xm rfl rfl (xb ttOk rfl rfl (nl (et (ev_cond rfl (fun h1 => ?_) (fun h1 => ?_))))))))))))))))))))))
 ·have d1 := of_decide_eq_true h1
  refine sq (rg (xs rfl rfl (nl (et (ev_ret (evr_then (ret_pure' ttOk rfl rfl ?_)))))))
  unfold rowsN
  refine congrArg iR (?_ : _ = _)
  exact szB_is (fun _ => by omega) (fun _ => by omega)
 ·have d1 := of_decide_eq_false h1
  refine ev_skip (et (sq (sq (rg (xs rfl rfl (nl (et (ev_blk (ev_loop (fun i : Nat × Int => (⟨[(5, iV i.1), (0, cV (rows K)), (1, iV i.2)], [], [], []⟩ : St)) (fun i => i.1 ≤ K.length ∧ i.2 = z - K.length - sumN List.length (K.take i.1) ∧ 0 ≤ i.2) (fun i => K.length - i.1) (0, z - K.length) [] (⟨by simp, by simp [sumN], by omega⟩) lei ?_)))))))))
  intro i hp
  obtain ⟨k, y⟩ := i
  have hp : k ≤ K.length ∧ y = z - K.length - sumN List.length (K.take k) ∧ 0 ≤ y := hp
  obtain ⟨p0, p1, p2⟩ := hp
  show Ev _ _ _ _ (⟨[(5, iV k), (0, cV (rows K)), (1, iV y)], [], [], []⟩ : St)
  refine sq (sq (rg (xm rfl rfl (xm rfl rfl (xo (q_len_map ttOk rfl rfl) rfl (xb ttOk rfl rfl (nl (et (ev_cond rfl (fun h2 => ?_) (fun h2 => ?_))))))))))
  ·have d2 := of_decide_eq_true h2
   have s1 := sumN_next (f := List.length) (l := K) (k := k) om
   have s2 := sumN_le List.length K (k + 1)
   refine ev_skip (et (sq (ev_blk (sq (rg (xm rfl rfl (xm rfl rfl (xo (q_ix_map ttOk rfl rfl rfl rfl om) rfl (xl ttOk rfl rfl (xm rfl rfl (evl_call (nm := 23) (cf rfl) (z_ints (K[k]'om) _ om) (rs_of rfl) rfl rfl rfl (xs rfl rfl (nl (et (sq (rg (xm rfl rfl (xb ttOk rfl rfl (nl (et (ev_cond rfl (fun h3 => ?_) (fun h3 => ?_))))))))))))))))))))))
   ·have d3 := of_decide_eq_true h3
    have e3 := szB_neg d3
    refine sq (rg (xs rfl rfl (nl (et (ev_ret (evr_blk (evr_then (evr_then (evr_blk (evr_then (ret_pure' ttOk rfl rfl ?_)))))))))))
    unfold rowsN
    refine congrArg iR (?_ : _ = _)
    exact szB_is (fun _ => by omega) (fun _ => by omega)
   ·have d3 := of_decide_eq_false h3
    have e3 := szB_pos d3
    refine ev_skip (eb (et (rg (xm rfl rfl (xa rfl rfl rfl om rfl (xs rfl rfl (nl (eve_round (k + 1, szB y (K[k]'om).length) [] ?hp lei))))))))
    case hp =>
     dsimp only
     exact ⟨⟨by omega, by omega, by omega⟩, by omega⟩
  ·have d2 := of_decide_eq_false h2
   have s3 := sumN_all (f := List.length) (l := K) (k := k) om
   refine ev_exit (evx_then (evx_then (evx_hit (et (sq (rg (xm rfl rfl (xs rfl rfl (nl (et (ev_ret (ret_pure' ttOk rfl rfl ?_))))))))))))
   unfold rowsN
   refine congrArg iR (?_ : _ = _)
   exact szB_is (fun _ => by omega) (fun _ => by omega)
theorem z_writes (W : List (Int × List Int)) (z : Int) (h : 0 ≤ z ∧ z ≤ 1048576) : Pure Tryz.prog 192 [one (writes W), one (iC z)] (iR (szB z (writesN W))) := by
 refine pure_intro (N := 27) Tryz.func192 rfl rfl rfl rfl (fun H w => ?_)
 refine ev_lenm (t := 0) rfl (fun hL => ?_)
 refine sq (rg (xs rfl rfl (nl (et (sq (rg (xm rfl rfl (xm rfl rfl (xo (q_len_map ttOk rfl rfl) rfl (xa rfl rfl rfl om rfl (xs rfl rfl (nl (et (sq (sq (rg (xm rfl rfl (xb ttOk rfl rfl (nl (et (ev_cond rfl (fun h1 => ?_) (fun h1 => ?_))))))))))))))))))))))
 ·have d1 := of_decide_eq_true h1
  refine sq (rg (xs rfl rfl (nl (et (ev_ret (evr_then (ret_pure' ttOk rfl rfl ?_)))))))
  unfold writesN
  refine congrArg iR (?_ : _ = _)
  exact szB_is (fun _ => by omega) (fun _ => by omega)
 ·have d1 := of_decide_eq_false h1
  refine ev_skip (et (sq (sq (rg (xs rfl rfl (nl (et (ev_blk (ev_loop (fun i : Nat × Int => (⟨[(5, iV i.1), (0, cV (writes W)), (1, iV i.2)], [], [], []⟩ : St)) (fun i => i.1 ≤ W.length ∧ i.2 = z - W.length - sumN (fun x => x.2.length) (W.take i.1) ∧ 0 ≤ i.2) (fun i => W.length - i.1) (0, z - W.length) [] (⟨by simp, by simp [sumN], by omega⟩) lei ?_)))))))))
  intro i hp
  obtain ⟨k, y⟩ := i
  have hp : k ≤ W.length ∧ y = z - W.length - sumN (fun x => x.2.length) (W.take k) ∧ 0 ≤ y := hp
  obtain ⟨p0, p1, p2⟩ := hp
  show Ev _ _ _ _ (⟨[(5, iV k), (0, cV (writes W)), (1, iV y)], [], [], []⟩ : St)
  refine sq (sq (rg (xm rfl rfl (xm rfl rfl (xo (q_len_map ttOk rfl rfl) rfl (xb ttOk rfl rfl (nl (et (ev_cond rfl (fun h2 => ?_) (fun h2 => ?_))))))))))
  ·have d2 := of_decide_eq_true h2
   have s1 := sumN_next (f := (fun x => x.2.length)) (l := W) (k := k) om
   have s2 := sumN_le (fun x => x.2.length) W (k + 1)
   refine ev_skip (et (sq (ev_blk (sq (rg (xm rfl rfl (xm rfl rfl (xo (q_ix_map ttOk rfl rfl rfl rfl om) rfl (xl ttOk rfl rfl (xm rfl rfl (evl_call (nm := 23) (cf rfl) (z_write (W[k]'om) _ om) (rs_of rfl) rfl rfl rfl (xs rfl rfl (nl (et (sq (rg (xm rfl rfl (xb ttOk rfl rfl (nl (et (ev_cond rfl (fun h3 => ?_) (fun h3 => ?_))))))))))))))))))))))
   ·have d3 := of_decide_eq_true h3
    have e3 := szB_neg d3
    refine sq (rg (xs rfl rfl (nl (et (ev_ret (evr_blk (evr_then (evr_then (evr_blk (evr_then (ret_pure' ttOk rfl rfl ?_)))))))))))
    unfold writesN
    refine congrArg iR (?_ : _ = _)
    exact szB_is (fun _ => by omega) (fun _ => by omega)
   ·have d3 := of_decide_eq_false h3
    have e3 := szB_pos d3
    refine ev_skip (eb (et (rg (xm rfl rfl (xa rfl rfl rfl om rfl (xs rfl rfl (nl (eve_round (k + 1, szB y (W[k]'om).2.length) [] ?hp lei))))))))
    case hp =>
     dsimp only
     exact ⟨⟨by omega, by omega, by omega⟩, by omega⟩
  ·have d2 := of_decide_eq_false h2
   have s3 := sumN_all (f := (fun x => x.2.length)) (l := W) (k := k) om
   refine ev_exit (evx_then (evx_then (evx_hit (et (sq (rg (xm rfl rfl (xs rfl rfl (nl (et (ev_ret (ret_pure' ttOk rfl rfl ?_))))))))))))
   unfold writesN
   refine congrArg iR (?_ : _ = _)
   exact szB_is (fun _ => by omega) (fun _ => by omega)
theorem z_disk (d : Disk) (z : Int) (h : 0 ≤ z ∧ z ≤ 1048576) : Pure Tryz.prog 119 [many (diskC d), one (iC z)] (iR (szB z (diskN d))) := by
 refine pure_intro (N := 18) Tryz.func119 rfl rfl rfl rfl (fun H w => ?_)
 refine sq (rg (evl_e (e_box rfl rfl rfl rfl) (xs rfl rfl (nl (et (sq (rg (xf ttOk rfl rfl (xl ttOk rfl rfl (xm rfl rfl (evl_call (nm := 8) (cf rfl) (z_rows _ _ om) (rs_of rfl) rfl rfl rfl (xs rfl rfl (nl (et (sq (sq (rg (xm rfl rfl (xb ttOk rfl rfl (nl (et (ev_cond rfl (fun h1 => ?_) (fun h1 => ?_)))))))))))))))))))))))
 ·have d1 := of_decide_eq_true h1
  have e1 := szB_neg d1
  refine sq (rg (xs rfl rfl (nl (et (ev_ret (evr_then (ret_pure' ttOk rfl rfl ?_)))))))
  unfold diskN
  refine congrArg iR (?_ : _ = _)
  exact szB_is (fun _ => by omega) (fun _ => by omega)
 ·have d1 := of_decide_eq_false h1
  have e1 := szB_pos d1
  refine ev_skip (et (sq (rg (xf ttOk rfl rfl (xl ttOk rfl rfl (xm rfl rfl (evl_call (nm := 14) (cf rfl) (z_writes _ _ om) (rs_of rfl) rfl rfl rfl (xs rfl rfl (nl (et (sq (sq (rg (xm rfl rfl (xb ttOk rfl rfl (nl (et (ev_cond rfl (fun h2 => ?_) (fun h2 => ?_)))))))))))))))))))
  ·have d2 := of_decide_eq_true h2
   have e2 := szB_neg d2
   refine sq (rg (xs rfl rfl (nl (et (ev_ret (evr_then (ret_pure' ttOk rfl rfl ?_)))))))
   unfold diskN
   refine congrArg iR (?_ : _ = _)
   exact szB_is (fun _ => by omega) (fun _ => by omega)
  ·have d2 := of_decide_eq_false h2
   have e2 := szB_pos d2
   refine ev_skip (et (sq (rg (xm rfl rfl (xs rfl rfl (nl (et (ev_ret (ret_pure' ttOk rfl rfl ?_)))))))))
   unfold diskN
   refine congrArg iR (?_ : _ = _)
   exact szB_is (fun _ => by omega) (fun _ => by omega)
theorem z_two (t : Two) (z : Int) (h : 0 ≤ z ∧ z ≤ 1048576) : Pure Tryz.prog 47 [many (twoC t), one (iC z)] (iR (szB z (twoN t))) := by
 refine pure_intro (N := 18) Tryz.func47 rfl rfl rfl rfl (fun H w => ?_)
 refine sq (rg (evl_e (e_box rfl rfl rfl rfl) (xs rfl rfl (nl (et (sq (rg (xf ttOk rfl rfl (xl ttOk rfl rfl (xm rfl rfl ?_))))))))))
 first | refine evl_call (nm := 8) (cf rfl) (z_disk t.a _ om) (rs_of rfl) rfl rfl rfl ?_ | refine evl_call (nm := 8) (cf rfl) (z_disk t.b _ om) (rs_of rfl) rfl rfl rfl ?_
 refine xs rfl rfl (nl (et (sq (sq (rg (xm rfl rfl (xb ttOk rfl rfl (nl (et (ev_cond rfl (fun h1 => ?_) (fun h1 => ?_)))))))))))
 ·have d1 := of_decide_eq_true h1
  have e1 := szB_neg d1
  refine sq (rg (xs rfl rfl (nl (et (ev_ret (evr_then (ret_pure' ttOk rfl rfl ?_)))))))
  unfold twoN
  refine congrArg iR (?_ : _ = _)
  exact szB_is (fun _ => by omega) (fun _ => by omega)
 ·have d1 := of_decide_eq_false h1
  have e1 := szB_pos d1
  refine ev_skip (et (sq (rg (xf ttOk rfl rfl (xl ttOk rfl rfl (xm rfl rfl ?_))))))
  first | refine evl_call (nm := 14) (cf rfl) (z_disk t.a _ om) (rs_of rfl) rfl rfl rfl ?_ | refine evl_call (nm := 14) (cf rfl) (z_disk t.b _ om) (rs_of rfl) rfl rfl rfl ?_
  refine xs rfl rfl (nl (et (sq (sq (rg (xm rfl rfl (xb ttOk rfl rfl (nl (et (ev_cond rfl (fun h2 => ?_) (fun h2 => ?_)))))))))))
  ·have d2 := of_decide_eq_true h2
   have e2 := szB_neg d2
   refine sq (rg (xs rfl rfl (nl (et (ev_ret (evr_then (ret_pure' ttOk rfl rfl ?_)))))))
   unfold twoN
   refine congrArg iR (?_ : _ = _)
   exact szB_is (fun _ => by omega) (fun _ => by omega)
  ·have d2 := of_decide_eq_false h2
   have e2 := szB_pos d2
   refine ev_skip (et (sq (rg (xm rfl rfl (xs rfl rfl (nl (et (ev_ret (ret_pure' ttOk rfl rfl ?_)))))))))
   unfold twoN
   refine congrArg iR (?_ : _ = _)
   exact szB_is (fun _ => by omega) (fun _ => by omega)
theorem z_head (x : Head) (z : Int) (h : 0 ≤ z ∧ z ≤ 1048576) : Pure Tryz.prog 48 [many (headC x), one (iC z)] (iR (szB z x.seen.length)) := by
 refine pure_intro (N := 12) Tryz.func48 rfl rfl rfl rfl (fun H w => ?_)
 refine sq (rg (evl_e (e_box rfl rfl rfl rfl) (xs rfl rfl (nl (et (sq (rg (xf ttOk rfl rfl (xl ttOk rfl rfl (xm rfl rfl (evl_call (nm := 8) (cf rfl) (z_marks _ _ om) (rs_of rfl) rfl rfl rfl (xs rfl rfl (nl (et (sq (sq (rg (xm rfl rfl (xb ttOk rfl rfl (nl (et (ev_cond rfl (fun h1 => ?_) (fun h1 => ?_)))))))))))))))))))))))
 ·have d1 := of_decide_eq_true h1
  have e1 := szB_neg d1
  refine sq (rg (xs rfl rfl (nl (et (ev_ret (evr_then (ret_pure' ttOk rfl rfl (congrArg iR (?_ : _ = _)))))))))
  exact szB_is (fun _ => by omega) (fun _ => by omega)
 ·have d1 := of_decide_eq_false h1
  have e1 := szB_pos d1
  refine ev_skip (et (sq (rg (xm rfl rfl (xs rfl rfl (nl (et (ev_ret (ret_pure' ttOk rfl rfl (congrArg iR (?_ : _ = _)))))))))))
  exact szB_is (fun _ => by omega) (fun _ => by omega)
theorem t_ints (l : List Int) (h : l.length ≤ 1048576) : Pure Tryz.prog 240 [one (ints l)] [one' (RC.s 2 1 (l.map (fun x => [iC x])))] := by
 refine pure_intro (N := 22) Tryz.func240 rfl rfl rfl rfl (fun H w => ?_)
 refine ev_lenm (t := 0) rfl (fun hL => ?_)
 refine sq (rg (xs rfl rfl (nl (et (sq (rg (xm rfl rfl (xo (q_len_map ttOk rfl rfl) rfl (evl_e (e_make ttOk rfl rfl rfl rfl rfl rfl rfl om rfl rfl) (xs rfl rfl (nl (et (sq (sq (rg (xs rfl rfl (nl (et (ev_blk (ev_loop (fun k : Nat => (⟨[(4, iV k), (0, cV (ints l)), (3, .p false [.rt 7])], [], [(7, 2, 1, mixR (fun x => [iC x]) [iC 0] l k)], []⟩ : St)) (fun k => k ≤ l.length) (fun k => l.length - k) 0 [] (by simp) ⟨trf, trf, ⟨⟨_, rfl, by exact mixR_zero _ _ _⟩, trivial⟩, tre, rfl⟩ ?_))))))))))))))))))))
 intro k hp
 have p0 := hp
 show Ev _ _ _ _ (⟨[(4, iV k), (0, cV (ints l)), (3, .p false [.rt 7])], [], [(7, 2, 1, mixR (fun x => [iC x]) [iC 0] l k)], []⟩ : St)
 refine sq (sq (rg (xm rfl rfl (xm rfl rfl (xo (q_len_map ttOk rfl rfl) rfl (xb ttOk rfl rfl (nl (et (ev_cond rfl (fun h1 => ?_) (fun h1 => ?_))))))))))
 ·have d1 := of_decide_eq_true h1
  refine ev_skip (et (sq (ev_blk (rg (xm rfl rfl (xm rfl rfl (xm rfl rfl (xm rfl rfl (xo (q_ix_map ttOk rfl rfl rfl rfl om) rfl (xl ttOk rfl rfl (xo (q_ix_rt (m := k) ttOk rfl rfl rfl rfl rfl rfl (by rw [mixR_len om]; omega)) rfl (evl_e (e_st_pr ttOk rfl rfl rfl rfl rfl rfl rfl (mixR_at om) rfl (mixR_set (f := fun x => [iC x]) (l := l) om) rfl rfl rfl) (nl (eb (et (rg (xm rfl rfl (xa rfl rfl rfl om rfl (xs rfl rfl (nl (eve_round (k + 1) [] ?hp ⟨trf, trf, ⟨⟨_, rfl, by rfl⟩, trivial⟩, tre, rfl⟩)))))))))))))))))))))
  case hp => exact ⟨by omega, by omega⟩
 ·have d1 := of_decide_eq_false h1
  refine ev_exit (evx_then (evx_then (evx_hit (et (sq (rg (xm rfl rfl (xs rfl rfl (nl (et (ev_ret (ret_pure' ttOk rfl rfl ?_))))))))))))
  rw [mixR_all om]
theorem t_mark (m : Mark) : Pure Tryz.prog 137 [many (markC m)] [many' ([.v (.int .i64 m.client), .v (.int .i64 m.seq), .v (.int .i64 m.index)])] := by
 refine pure_intro (N := 14) Tryz.func137 rfl rfl rfl rfl (fun H w => ?_)
 refine sq (rg (evl_e (e_box rfl rfl rfl rfl) (evl_e (e_alloc ttOk rfl rfl rfl rfl) (nl (et (sq (rg (evl_e (e_alloc ttOk rfl rfl rfl rfl) (nl (et (sq (rg (xf ttOk rfl rfl (xl ttOk rfl rfl (xf ttOk rfl rfl (xst ttOk rfl rfl (nl (et (sq (rg (xf ttOk rfl rfl (xl ttOk rfl rfl (xf ttOk rfl rfl (xst ttOk rfl rfl (nl (et (sq (rg (xf ttOk rfl rfl (xl ttOk rfl rfl (xf ttOk rfl rfl (xst ttOk rfl rfl (nl (et (sq (rg (xl ttOk rfl rfl (xst ttOk rfl rfl (nl (et (ev_ret (ret_pure' ttOk rfl rfl ?_))))))))))))))))))))))))))))))))))))))))))
 rfl
theorem t_marks (l : List Mark) (h : l.length ≤ 1048576) : Pure Tryz.prog 59 [one (marks l)] [one' (RC.s 94 3 (l.map (markC)))] := by
 refine pure_intro (N := 23) Tryz.func59 rfl rfl rfl rfl (fun H w => ?_)
 refine ev_lenm (t := 0) rfl (fun hL => ?_)
 refine sq (rg (xs rfl rfl (nl (et (sq (rg (xm rfl rfl (xo (q_len_map ttOk rfl rfl) rfl (evl_e (e_make ttOk rfl rfl rfl rfl rfl rfl rfl om rfl rfl) (xs rfl rfl (nl (et (sq (sq (rg (xs rfl rfl (nl (et (ev_blk (ev_loop (fun k : Nat => (⟨[(4, iV k), (0, cV (marks l)), (3, .p false [.rt 7])], [], [(7, 94, 3, mixR (markC) [iC 0, iC 0, iC 0] l k)], []⟩ : St)) (fun k => k ≤ l.length) (fun k => l.length - k) 0 [] (by simp) ⟨trf, trf, ⟨⟨_, rfl, by exact mixR_zero _ _ _⟩, trivial⟩, tre, rfl⟩ ?_))))))))))))))))))))
 intro k hp
 have p0 := hp
 show Ev _ _ _ _ (⟨[(4, iV k), (0, cV (marks l)), (3, .p false [.rt 7])], [], [(7, 94, 3, mixR (markC) [iC 0, iC 0, iC 0] l k)], []⟩ : St)
 refine sq (sq (rg (xm rfl rfl (xm rfl rfl (xo (q_len_map ttOk rfl rfl) rfl (xb ttOk rfl rfl (nl (et (ev_cond rfl (fun h1 => ?_) (fun h1 => ?_))))))))))
 ·have d1 := of_decide_eq_true h1
  refine ev_skip (et (sq (ev_blk (rg (xm rfl rfl (xm rfl rfl (xm rfl rfl (xm rfl rfl (xo (q_ix_map ttOk rfl rfl rfl rfl om) rfl (xl ttOk rfl rfl (evl_call (nm := 20) (cf rfl) (t_mark (l[k]'om)) (rs_of rfl) rfl rfl rfl (xo (q_ix_rt (m := k) ttOk rfl rfl rfl rfl rfl rfl (by rw [mixR_len om]; omega)) rfl (evl_e (e_st_pr ttOk rfl rfl rfl rfl rfl rfl rfl (mixR_at om) rfl (mixR_set (f := markC) (l := l) om) rfl rfl rfl) (nl (eb (et (rg (xm rfl rfl (xa rfl rfl rfl om rfl (xs rfl rfl (nl (eve_round (k + 1) [] ?hp ⟨trf, trf, ⟨⟨_, rfl, by rfl⟩, trivial⟩, tre, rfl⟩))))))))))))))))))))))
  case hp => exact ⟨by omega, by omega⟩
 ·have d1 := of_decide_eq_false h1
  refine ev_exit (evx_then (evx_then (evx_hit (et (sq (rg (xm rfl rfl (xs rfl rfl (nl (et (ev_ret (ret_pure' ttOk rfl rfl ?_))))))))))))
  rw [mixR_all om]
theorem t_ack (m : Ack) : Pure Tryz.prog 138 [many (ackC m)] [many' ([.v (.int .i64 m.client), .v (.int .i64 m.seq), .v (.int .i64 m.index), .v (.int .i64 m.last)])] := by
 refine pure_intro (N := 17) Tryz.func138 rfl rfl rfl rfl (fun H w => ?_)
 refine sq (rg (evl_e (e_box rfl rfl rfl rfl) (evl_e (e_alloc ttOk rfl rfl rfl rfl) (nl (et (sq (rg (evl_e (e_alloc ttOk rfl rfl rfl rfl) (nl (et (sq (rg (xf ttOk rfl rfl (xl ttOk rfl rfl (xf ttOk rfl rfl (xst ttOk rfl rfl (nl (et (sq (rg (xf ttOk rfl rfl (xl ttOk rfl rfl (xf ttOk rfl rfl (xst ttOk rfl rfl (nl (et (sq (rg (xf ttOk rfl rfl (xl ttOk rfl rfl (xf ttOk rfl rfl (xst ttOk rfl rfl (nl (et (sq (rg (xf ttOk rfl rfl (xl ttOk rfl rfl (xf ttOk rfl rfl (xst ttOk rfl rfl (nl (et (sq (rg (xl ttOk rfl rfl (xst ttOk rfl rfl (nl (et (ev_ret (ret_pure' ttOk rfl rfl ?_))))))))))))))))))))))))))))))))))))))))))))))))))
 rfl
theorem t_acks (l : List Ack) (h : l.length ≤ 1048576) : Pure Tryz.prog 60 [one (acks l)] [one' (RC.s 83 4 (l.map (ackC)))] := by
 refine pure_intro (N := 23) Tryz.func60 rfl rfl rfl rfl (fun H w => ?_)
 refine ev_lenm (t := 0) rfl (fun hL => ?_)
 refine sq (rg (xs rfl rfl (nl (et (sq (rg (xm rfl rfl (xo (q_len_map ttOk rfl rfl) rfl (evl_e (e_make ttOk rfl rfl rfl rfl rfl rfl rfl om rfl rfl) (xs rfl rfl (nl (et (sq (sq (rg (xs rfl rfl (nl (et (ev_blk (ev_loop (fun k : Nat => (⟨[(4, iV k), (0, cV (acks l)), (3, .p false [.rt 7])], [], [(7, 83, 4, mixR (ackC) [iC 0, iC 0, iC 0, iC 0] l k)], []⟩ : St)) (fun k => k ≤ l.length) (fun k => l.length - k) 0 [] (by simp) ⟨trf, trf, ⟨⟨_, rfl, by exact mixR_zero _ _ _⟩, trivial⟩, tre, rfl⟩ ?_))))))))))))))))))))
 intro k hp
 have p0 := hp
 show Ev _ _ _ _ (⟨[(4, iV k), (0, cV (acks l)), (3, .p false [.rt 7])], [], [(7, 83, 4, mixR (ackC) [iC 0, iC 0, iC 0, iC 0] l k)], []⟩ : St)
 refine sq (sq (rg (xm rfl rfl (xm rfl rfl (xo (q_len_map ttOk rfl rfl) rfl (xb ttOk rfl rfl (nl (et (ev_cond rfl (fun h1 => ?_) (fun h1 => ?_))))))))))
 ·have d1 := of_decide_eq_true h1
  refine ev_skip (et (sq (ev_blk (rg (xm rfl rfl (xm rfl rfl (xm rfl rfl (xm rfl rfl (xo (q_ix_map ttOk rfl rfl rfl rfl om) rfl (xl ttOk rfl rfl (evl_call (nm := 20) (cf rfl) (t_ack (l[k]'om)) (rs_of rfl) rfl rfl rfl (xo (q_ix_rt (m := k) ttOk rfl rfl rfl rfl rfl rfl (by rw [mixR_len om]; omega)) rfl (evl_e (e_st_pr ttOk rfl rfl rfl rfl rfl rfl rfl (mixR_at om) rfl (mixR_set (f := ackC) (l := l) om) rfl rfl rfl) (nl (eb (et (rg (xm rfl rfl (xa rfl rfl rfl om rfl (xs rfl rfl (nl (eve_round (k + 1) [] ?hp ⟨trf, trf, ⟨⟨_, rfl, by rfl⟩, trivial⟩, tre, rfl⟩))))))))))))))))))))))
  case hp => exact ⟨by omega, by omega⟩
 ·have d1 := of_decide_eq_false h1
  refine ev_exit (evx_then (evx_then (evx_hit (et (sq (rg (xm rfl rfl (xs rfl rfl (nl (et (ev_ret (ret_pure' ttOk rfl rfl ?_))))))))))))
  rw [mixR_all om]
theorem t_rows (K : List (List Int)) (h : rowsN K ≤ 1048576) : Pure Tryz.prog 203 [one (rows K)] [one' (RC.s 74 1 (K.map (fun r => [ints r])))] := by
 refine pure_intro (N := 23) Tryz.func203 rfl rfl rfl rfl (fun H w => ?_)
 refine ev_lenm (t := 0) rfl (fun hL => ?_)
 unfold rowsN at h
 refine sq (rg (xs rfl rfl (nl (et (sq (rg (xm rfl rfl (xo (q_len_map ttOk rfl rfl) rfl (evl_e (e_make ttOk rfl rfl rfl rfl rfl rfl rfl om rfl rfl) (xs rfl rfl (nl (et (sq (sq (rg (xs rfl rfl (nl (et (ev_blk (ev_loop (fun k : Nat => (⟨[(4, iV k), (0, cV (rows K)), (3, .p false [.rt 7])], [], [(7, 74, 1, mixR (fun r => [ints r]) [.nil] K k)], []⟩ : St)) (fun k => k ≤ K.length) (fun k => K.length - k) 0 [] (by simp) ⟨trf, trf, ⟨⟨_, rfl, by exact mixR_zero _ _ _⟩, trivial⟩, tre, rfl⟩ ?_))))))))))))))))))))
 intro k hp
 have p0 := hp
 show Ev _ _ _ _ (⟨[(4, iV k), (0, cV (rows K)), (3, .p false [.rt 7])], [], [(7, 74, 1, mixR (fun r => [ints r]) [.nil] K k)], []⟩ : St)
 refine sq (sq (rg (xm rfl rfl (xm rfl rfl (xo (q_len_map ttOk rfl rfl) rfl (xb ttOk rfl rfl (nl (et (ev_cond rfl (fun h1 => ?_) (fun h1 => ?_))))))))))
 ·have d1 := of_decide_eq_true h1
  refine ev_skip (et (sq (ev_blk ?_)))
  have s1 := sumN_mem (f := List.length) (l := K) (k := k) om
  refine rg (xm rfl rfl (xm rfl rfl (xm rfl rfl (xm rfl rfl (xo (q_ix_map ttOk rfl rfl rfl rfl om) rfl (xl ttOk rfl rfl (evl_call (nm := 20) (cf rfl) (t_ints (K[k]'om) om) (rs_of rfl) rfl rfl rfl (xo (q_ix_rt (m := k) ttOk rfl rfl rfl rfl rfl rfl (by rw [mixR_len om]; omega)) rfl (evl_e (e_st_pr ttOk rfl rfl rfl rfl rfl rfl rfl (mixR_at om) rfl (mixR_set (f := fun r => [ints r]) (l := K) om) rfl rfl rfl) (nl (eb (et (rg (xm rfl rfl (xa rfl rfl rfl om rfl (xs rfl rfl (nl (eve_round (k + 1) [] ?hp ⟨trf, trf, ⟨⟨_, rfl, by rfl⟩, trivial⟩, tre, rfl⟩))))))))))))))))))
  case hp => exact ⟨by omega, by omega⟩
 ·have d1 := of_decide_eq_false h1
  refine ev_exit (evx_then (evx_then (evx_hit (et (sq (rg (xm rfl rfl (xs rfl rfl (nl (et (ev_ret (ret_pure' ttOk rfl rfl ?_))))))))))))
  rw [mixR_all om]
theorem t_write (x : Int × List Int) (h : x.2.length ≤ 1048576) : Pure Tryz.prog 241 [many ([iC x.1, ints x.2])] [many' ([.v (.int .i64 x.1), intsR 2 x.2])] := by
 refine pure_intro (N := 12) Tryz.func241 rfl rfl rfl rfl (fun H w => ?_)
 refine sq (rg (evl_e (e_box rfl rfl rfl rfl) (evl_e (e_alloc ttOk rfl rfl rfl rfl) (nl (et (sq (rg (evl_e (e_alloc ttOk rfl rfl rfl rfl) (nl (et (sq (rg (xf ttOk rfl rfl (xl ttOk rfl rfl (xf ttOk rfl rfl (xst ttOk rfl rfl (nl (et (sq (rg (xf ttOk rfl rfl (xl ttOk rfl rfl (evl_call (nm := 9) (cf rfl) (t_ints _ om) (rs_of rfl) rfl rfl rfl (xf ttOk rfl rfl (xst ttOk rfl rfl (nl (et (sq (rg (xl ttOk rfl rfl (xst ttOk rfl rfl (nl (et (ev_ret (ret_pure' ttOk rfl rfl ?_)))))))))))))))))))))))))))))))))))
 rfl
theorem t_writes (W : List (Int × List Int)) (h : writesN W ≤ 1048576) : Pure Tryz.prog 204 [one (writes W)] [one' (RC.s 212 2 (W.map (fun x => [iC x.1, ints x.2])))] := by
 refine pure_intro (N := 23) Tryz.func204 rfl rfl rfl rfl (fun H w => ?_)
 refine ev_lenm (t := 0) rfl (fun hL => ?_)
 unfold writesN at h
 refine sq (rg (xs rfl rfl (nl (et (sq (rg (xm rfl rfl (xo (q_len_map ttOk rfl rfl) rfl (evl_e (e_make ttOk rfl rfl rfl rfl rfl rfl rfl om rfl rfl) (xs rfl rfl (nl (et (sq (sq (rg (xs rfl rfl (nl (et (ev_blk (ev_loop (fun k : Nat => (⟨[(4, iV k), (0, cV (writes W)), (3, .p false [.rt 7])], [], [(7, 212, 2, mixR (fun x => [iC x.1, ints x.2]) [iC 0, .nil] W k)], []⟩ : St)) (fun k => k ≤ W.length) (fun k => W.length - k) 0 [] (by simp) ⟨trf, trf, ⟨⟨_, rfl, by exact mixR_zero _ _ _⟩, trivial⟩, tre, rfl⟩ ?_))))))))))))))))))))
 intro k hp
 have p0 := hp
 show Ev _ _ _ _ (⟨[(4, iV k), (0, cV (writes W)), (3, .p false [.rt 7])], [], [(7, 212, 2, mixR (fun x => [iC x.1, ints x.2]) [iC 0, .nil] W k)], []⟩ : St)
 refine sq (sq (rg (xm rfl rfl (xm rfl rfl (xo (q_len_map ttOk rfl rfl) rfl (xb ttOk rfl rfl (nl (et (ev_cond rfl (fun h1 => ?_) (fun h1 => ?_))))))))))
 ·have d1 := of_decide_eq_true h1
  refine ev_skip (et (sq (ev_blk ?_)))
  have s1 := sumN_mem (f := fun x => x.2.length) (l := W) (k := k) om
  refine rg (xm rfl rfl (xm rfl rfl (xm rfl rfl (xm rfl rfl (xo (q_ix_map ttOk rfl rfl rfl rfl om) rfl (xl ttOk rfl rfl (evl_call (nm := 20) (cf rfl) (t_write (W[k]'om) om) (rs_of rfl) rfl rfl rfl (xo (q_ix_rt (m := k) ttOk rfl rfl rfl rfl rfl rfl (by rw [mixR_len om]; omega)) rfl (evl_e (e_st_pr ttOk rfl rfl rfl rfl rfl rfl rfl (mixR_at om) rfl (mixR_set (f := fun x => [iC x.1, ints x.2]) (l := W) om) rfl rfl rfl) (nl (eb (et (rg (xm rfl rfl (xa rfl rfl rfl om rfl (xs rfl rfl (nl (eve_round (k + 1) [] ?hp ⟨trf, trf, ⟨⟨_, rfl, by rfl⟩, trivial⟩, tre, rfl⟩))))))))))))))))))
  case hp => exact ⟨by omega, by omega⟩
 ·have d1 := of_decide_eq_false h1
  refine ev_exit (evx_then (evx_then (evx_hit (et (sq (rg (xm rfl rfl (xs rfl rfl (nl (et (ev_ret (ret_pure' ttOk rfl rfl ?_))))))))))))
  rw [mixR_all om]
theorem t_disk (d : Disk) (h : diskN d ≤ 1048576) : Pure Tryz.prog 135 [many (diskC d)] [many' (diskR d)] := by
 refine pure_intro (N := 13) Tryz.func135 rfl rfl rfl rfl (fun H w => ?_)
 unfold diskN at h
 refine sq (rg (evl_e (e_box rfl rfl rfl rfl) (evl_e (e_alloc ttOk rfl rfl rfl rfl) (nl (et (sq (rg (evl_e (e_alloc ttOk rfl rfl rfl rfl) (nl (et (sq (rg (xf ttOk rfl rfl (xl ttOk rfl rfl (evl_call (nm := 6) (cf rfl) (t_rows _ om) (rs_of rfl) rfl rfl rfl (xf ttOk rfl rfl (xst ttOk rfl rfl (nl (et (sq (rg (xf ttOk rfl rfl (xl ttOk rfl rfl (evl_call (nm := 10) (cf rfl) (t_writes _ om) (rs_of rfl) rfl rfl rfl (xf ttOk rfl rfl (xst ttOk rfl rfl (nl (et (sq (rg (xl ttOk rfl rfl (xst ttOk rfl rfl (nl (et (ev_ret (ret_pure' ttOk rfl rfl ?_))))))))))))))))))))))))))))))))))))
 rfl
theorem t_two (t : Two) (h : twoN t ≤ 1048576) : Pure Tryz.prog 56 [many (twoC t)] [many' (twoR t)] := by
 refine pure_intro (N := 13) Tryz.func56 rfl rfl rfl rfl (fun H w => ?_)
 unfold twoN at h
 refine sq (rg (evl_e (e_box rfl rfl rfl rfl) (evl_e (e_alloc ttOk rfl rfl rfl rfl) (nl (et (sq (rg (evl_e (e_alloc ttOk rfl rfl rfl rfl) (nl (et (sq (rg (xf ttOk rfl rfl (xl ttOk rfl rfl ?_))))))))))))))
 first | refine evl_call (nm := 6) (cf rfl) (t_disk t.a om) (rs_of rfl) rfl rfl rfl ?_ | refine evl_call (nm := 6) (cf rfl) (t_disk t.b om) (rs_of rfl) rfl rfl rfl ?_
 refine xf ttOk rfl rfl (xst ttOk rfl rfl (nl (et (sq (rg (xf ttOk rfl rfl (xl ttOk rfl rfl ?_)))))))
 first | refine evl_call (nm := 10) (cf rfl) (t_disk t.a om) (rs_of rfl) rfl rfl rfl ?_ | refine evl_call (nm := 10) (cf rfl) (t_disk t.b om) (rs_of rfl) rfl rfl rfl ?_
 refine xf ttOk rfl rfl (xst ttOk rfl rfl (nl (et (sq (rg (xl ttOk rfl rfl (xst ttOk rfl rfl (nl (et (ev_ret (ret_pure' ttOk rfl rfl ?_)))))))))))
 rfl
theorem t_head (x : Head) (h : x.seen.length ≤ 1048576) : Pure Tryz.prog 57 [many (headC x)] [many' (headR x)] := by
 refine pure_intro (N := 18) Tryz.func57 rfl rfl rfl rfl (fun H w => ?_)
 refine sq (rg (evl_e (e_box rfl rfl rfl rfl) (evl_e (e_alloc ttOk rfl rfl rfl rfl) (nl (et (sq (rg (evl_e (e_alloc ttOk rfl rfl rfl rfl) (nl (et (sq (rg (xf ttOk rfl rfl (xl ttOk rfl rfl (xf ttOk rfl rfl (xst ttOk rfl rfl (nl (et (sq (rg (xf ttOk rfl rfl (xl ttOk rfl rfl (xf ttOk rfl rfl (xst ttOk rfl rfl (nl (et (sq (rg (xf ttOk rfl rfl (xl ttOk rfl rfl (xf ttOk rfl rfl (xst ttOk rfl rfl (nl (et (sq (rg (xf ttOk rfl rfl (xl ttOk rfl rfl (evl_call (nm := 15) (cf rfl) (t_marks _ om) (rs_of rfl) rfl rfl rfl (xf ttOk rfl rfl (xst ttOk rfl rfl (nl (et (sq (rg (xl ttOk rfl rfl (xst ttOk rfl rfl (nl (et (ev_ret ?_))))))))))))))))))))))))))))))))))))))))))))))))))
 refine ret_pure' ttOk rfl rfl ?_
 rfl
def mixM {α : Type} (f : α → List C) (g : Nat → List C) (l : List α) (k : Nat) : List (List C) := (List.range k).map g ++ (l.drop k).map f
theorem mixM_zero {α : Type} (f : α → List C) (g : Nat → List C) (l : List α) : l.map f = mixM f g l 0 := by simp [mixM]
theorem mixM_len {α : Type} {f : α → List C} {g : Nat → List C} {l : List α} {k : Nat} (hk : k ≤ l.length) : (mixM f g l k).length = l.length := by simp [mixM]; omega
theorem mixM_at {α : Type} {f : α → List C} {g : Nat → List C} {l : List α} {k : Nat} (hk : k < l.length) : (mixM f g l k)[k]? = some (f l[k]) := by
 unfold mixM
 rw [List.getElem?_append_right (by simp), List.length_map, List.length_range, Nat.sub_self, List.drop_eq_getElem_cons hk]
 rfl
theorem mixM_set {α : Type} {f : α → List C} {g : Nat → List C} {l : List α} {k : Nat} {row : List C} (hk : k < l.length) (hr : row = g k) : mixM f g l (k + 1) = (mixM f g l k).set k row := by
 subst hr
 unfold mixM
 have h1 : ((List.range k).map g).length = k := by simp
 rw [List.set_append_right _ _ om, h1, Nat.sub_self, List.drop_eq_getElem_cons hk, List.range_succ]
 simp only [List.map_append, List.map_cons, List.map_nil, List.set_cons_zero, List.append_assoc, List.cons_append, List.nil_append]
theorem mixM_all {α : Type} {f : α → List C} {g : Nat → List C} {l : List α} {k : Nat} (hk : k ≤ l.length) (hk2 : ¬ k < l.length) : mixM f g l k = (List.range l.length).map g := by
 unfold mixM
 rw [List.drop_of_length_le om, show k = l.length by omega]
 simp
theorem set_get {α : Type} {l : List α} {k : Nat} {x : α} (hk : k < l.length) : (l.set k x)[k]? = some x := by rw [List.getElem?_set_self hk]
theorem set2 {α : Type} {m l : List α} {k : Nat} {x y : α} (h : m = l.set k y) : m = (l.set k x).set k y := by rw [List.set_set]; exact h
theorem rangeLen (n : Nat) : (List.range n).length = n := List.length_range
def g1 (q : Int) (i : Nat) : List C := [iC (q + i)]
def g3 (q : Int) (i : Nat) : List C := [iC (q + (3 * i : Nat)), iC (q + (3 * i : Nat) + 1), iC (q + (3 * i : Nat) + 1 + 1)]
def g4 (q : Int) (i : Nat) : List C := [iC (q + (4 * i : Nat)), iC (q + (4 * i : Nat) + 1), iC (q + (4 * i : Nat) + 1 + 1), iC (q + (4 * i : Nat) + 1 + 1 + 1)]
def g9 (q : Int) (i : Nat) : List C := [iC (q + (9 * i : Nat)), iC (q + (9 * i : Nat) + 1), iC (q + (9 * i : Nat) + 1 + 1), iC (q + (9 * i : Nat) + 1 + 1 + 1), iC (q + (9 * i : Nat) + 1 + 1 + 1 + 1), iC (q + (9 * i : Nat) + 1 + 1 + 1 + 1 + 1), iC (q + (9 * i : Nat) + 1 + 1 + 1 + 1 + 1 + 1), iC (q + (9 * i : Nat) + 1 + 1 + 1 + 1 + 1 + 1 + 1), iC (q + (9 * i : Nat) + 1 + 1 + 1 + 1 + 1 + 1 + 1 + 1)]
@[reducible] def mk1 (q : Int) (n : Nat) : List (List C) := (List.range n).map (g1 q)
@[reducible] def mk3 (q : Int) (n : Nat) : List (List C) := (List.range n).map (g3 q)
@[reducible] def mk4 (q : Int) (n : Nat) : List (List C) := (List.range n).map (g4 q)
@[reducible] def mk9 (q : Int) (n : Nat) : List (List C) := (List.range n).map (g9 q)
def lenS (x : Int × List Int) : Nat := 1 + x.2.length
def gR (q : Int) (K : List (List Int)) (i : Nat) : List C := [.s 1 (mk1 (q + sumN List.length (K.take i)) (K.getD i []).length)]
def gW (q : Int) (W : List (Int × List Int)) (i : Nat) : List C := [iC (q + sumN lenS (W.take i)), .s 1 (mk1 (q + sumN lenS (W.take i) + 1) (W.getD i (0, [])).2.length)]
@[reducible] def mkRows (q : Int) (K : List (List Int)) : List (List C) := (List.range K.length).map (gR q K)
@[reducible] def mkWrites (q : Int) (W : List (Int × List Int)) : List (List C) := (List.range W.length).map (gW q W)
theorem getD_len {K : List (List Int)} {k : Nat} (hk : k < K.length) : K.getD k [] = K[k] := by simp [hk]
theorem getD_lenW {K : List (Int × List Int)} {k : Nat} (hk : k < K.length) : K.getD k (0, []) = K[k] := by simp [hk]
theorem m_ints (ty : Nat) (l : List Int) (q : Int) (h : 0 ≤ q ∧ q + l.length ≤ 1099511627776) : Marks Tryz.prog 247 (false, [.s ty 1 (l.map (fun x => [iC x]))]) (false, [.s ty 1 (mk1 q l.length)]) q (q + (l.length : Nat)) := by
 refine marks_intro (N := 19) Tryz.func247 rfl rfl rfl rfl (fun w v F => ?_)
 refine sq (rg (xs rfl rfl (nl (et (sq (sq (rg (xs rfl rfl (nl (et (ev_blk (ev_loop (fun i : Nat × Int => (⟨[(5, iV i.1), (1, iV i.2), (0, .p false [.rt 900])], [], [(900, ty, 1, mixM (fun x => [iC x]) (g1 q) l i.1)], []⟩ : St)) (fun i => i.1 ≤ l.length ∧ i.2 = q + (i.1 : Nat)) (fun i => l.length - i.1) (0, q) [] (⟨by simp, by simp⟩) ⟨trf, trf, ⟨⟨_, rfl, by exact mixM_zero _ _ _⟩, trivial⟩, tre, rfl⟩ ?_))))))))))))
 intro i hp
 obtain ⟨k, z⟩ := i
 have hp : k ≤ l.length ∧ z = q + (k : Nat) := hp
 obtain ⟨p0, p1⟩ := hp
 show Ev _ _ _ _ (⟨[(5, iV k), (1, iV z), (0, .p false [.rt 900])], [], [(900, ty, 1, mixM (fun x => [iC x]) (g1 q) l k)], []⟩ : St)
 have hM : (mixM (fun x => [iC x]) (g1 q) l k).length = l.length := mixM_len p0
 refine sq (sq (rg (xm rfl rfl (xm rfl rfl (xo (q_len_rt ttOk rfl rfl rfl) rfl (xb ttOk rfl rfl (nl (et (ev_cond rfl (fun h1 => ?_) (fun h1 => ?_))))))))))
 ·have d1 := of_decide_eq_true h1
  refine ev_skip (et (sq (ev_blk (sq (rg (xm rfl rfl (xm rfl rfl (xm rfl rfl (xo (q_ix_rt (m := k) ttOk rfl rfl rfl rfl rfl rfl (by first | (rw [hM]; omega) | (rw [List.length_set, hM]; omega) | (simp only [List.length_set, hM]; omega))) rfl (evl_e (e_st_pr ttOk rfl rfl rfl rfl rfl rfl rfl (mixM_at om) rfl ((mixM_set om (by rw [p1]; rfl))) rfl rfl rfl) (nl (et (rg (xm rfl rfl (xa rfl rfl rfl om rfl (xs rfl rfl (nl (eb (et (rg (xm rfl rfl (xa rfl rfl rfl om rfl (xs rfl rfl (nl (eve_round (k + 1, _) [] ?hp ⟨trf, trf, ⟨⟨_, rfl, by rfl⟩, trivial⟩, tre, rfl⟩)))))))))))))))))))))))))
  case hp =>
   dsimp only
   exact ⟨⟨by omega, by omega⟩, by omega⟩
 ·have d1 := of_decide_eq_false h1
  refine ev_exit (evx_then (evx_then (evx_hit (et (sq (rg (xm rfl rfl (xs rfl rfl (nl (et (ev_ret (ret_mark ttOk rfl rfl rfl (⟨by rw [mixM_all p0 om], ?_⟩)))))))))))))
  obtain rfl : k = l.length := by omega
  omega
theorem m_marks (ty : Nat) (l : List Mark) (q : Int) (h : 0 ≤ q ∧ q + 3 * l.length ≤ 1099511627776) : Marks Tryz.prog 77 (false, [.s ty 3 (l.map markC)]) (false, [.s ty 3 (mk3 q l.length)]) q (q + (3 * l.length : Nat)) := by
 refine marks_intro (N := 34) Tryz.func77 rfl rfl rfl rfl (fun w v F => ?_)
 refine sq (rg (xs rfl rfl (nl (et (sq (sq (rg (xs rfl rfl (nl (et (ev_blk (ev_loop (fun i : Nat × Int => (⟨[(5, iV i.1), (1, iV i.2), (0, .p false [.rt 900])], [], [(900, ty, 3, mixM markC (g3 q) l i.1)], []⟩ : St)) (fun i => i.1 ≤ l.length ∧ i.2 = q + (3 * i.1 : Nat)) (fun i => l.length - i.1) (0, q) [] (⟨by simp, by simp⟩) ⟨trf, trf, ⟨⟨_, rfl, by exact mixM_zero _ _ _⟩, trivial⟩, tre, rfl⟩ ?_))))))))))))
 intro i hp
 obtain ⟨k, z⟩ := i
 have hp : k ≤ l.length ∧ z = q + (3 * k : Nat) := hp
 obtain ⟨p0, p1⟩ := hp
 show Ev _ _ _ _ (⟨[(5, iV k), (1, iV z), (0, .p false [.rt 900])], [], [(900, ty, 3, mixM markC (g3 q) l k)], []⟩ : St)
 have hM : (mixM markC (g3 q) l k).length = l.length := mixM_len p0
 refine sq (sq (rg (xm rfl rfl (xm rfl rfl (xo (q_len_rt ttOk rfl rfl rfl) rfl (xb ttOk rfl rfl (nl (et (ev_cond rfl (fun h1 => ?_) (fun h1 => ?_))))))))))
 ·have d1 := of_decide_eq_true h1
  refine ev_skip (et (sq (ev_blk (sq (rg (xm rfl rfl (xm rfl rfl (xm rfl rfl (xo (q_ix_rt (m := k) ttOk rfl rfl rfl rfl rfl rfl (by first | (rw [hM]; omega) | (rw [List.length_set, hM]; omega) | (simp only [List.length_set, hM]; omega))) rfl (xf ttOk rfl rfl (evl_e (e_st_pr ttOk rfl rfl rfl rfl rfl rfl rfl (mixM_at om) rfl rfl rfl rfl rfl) (nl (et (sq (rg (xm rfl rfl (xa rfl rfl rfl om rfl (xs rfl rfl (nl (et (sq (rg (xm rfl rfl (xm rfl rfl (xm rfl rfl (xo (q_ix_rt (m := k) ttOk rfl rfl rfl rfl rfl rfl (by first | (rw [hM]; omega) | (rw [List.length_set, hM]; omega) | (simp only [List.length_set, hM]; omega))) rfl (xf ttOk rfl rfl (evl_e (e_st_pr ttOk rfl rfl rfl rfl rfl rfl rfl (set_get (by first | (rw [hM]; omega) | (simp only [List.length_set, hM]; omega))) rfl rfl rfl rfl rfl) (nl (et (sq (rg (xm rfl rfl (xa rfl rfl rfl om rfl (xs rfl rfl (nl (et (sq (rg (xm rfl rfl (xm rfl rfl (xm rfl rfl (xo (q_ix_rt (m := k) ttOk rfl rfl rfl rfl rfl rfl (by first | (rw [hM]; omega) | (rw [List.length_set, hM]; omega) | (simp only [List.length_set, hM]; omega))) rfl (xf ttOk rfl rfl (evl_e (e_st_pr ttOk rfl rfl rfl rfl rfl rfl rfl (set_get (by first | (rw [hM]; omega) | (simp only [List.length_set, hM]; omega))) rfl ((set2 (set2 (mixM_set om (by rw [p1]; rfl))))) rfl rfl rfl) (nl (et (rg (xm rfl rfl (xa rfl rfl rfl om rfl ?_))))))))))))))))))))))))))))))))))))))))))))))))))
  refine xs rfl rfl (nl (eb (et (rg (xm rfl rfl (xa rfl rfl rfl om rfl (xs rfl rfl (nl (eve_round (k + 1, _) [] ?hp ⟨trf, trf, ⟨⟨_, rfl, by rfl⟩, trivial⟩, tre, rfl⟩)))))))))
  case hp =>
   dsimp only
   exact ⟨⟨by omega, by omega⟩, by omega⟩
 ·have d1 := of_decide_eq_false h1
  refine ev_exit (evx_then (evx_then (evx_hit (et (sq (rg (xm rfl rfl (xs rfl rfl (nl (et (ev_ret (ret_mark ttOk rfl rfl rfl (⟨by rw [mixM_all p0 om], ?_⟩)))))))))))))
  obtain rfl : k = l.length := by omega
  omega
theorem m_acks (ty : Nat) (l : List Ack) (q : Int) (h : 0 ≤ q ∧ q + 4 * l.length ≤ 1099511627776) : Marks Tryz.prog 20 (false, [.s ty 4 (l.map ackC)]) (false, [.s ty 4 (mk4 q l.length)]) q (q + (4 * l.length : Nat)) := by
 refine marks_intro (N := 41) Tryz.func20 rfl rfl rfl rfl (fun w v F => ?_)
 refine sq (rg (xs rfl rfl (nl (et (sq (sq (rg (xs rfl rfl (nl (et (ev_blk (ev_loop (fun i : Nat × Int => (⟨[(5, iV i.1), (1, iV i.2), (0, .p false [.rt 900])], [], [(900, ty, 4, mixM ackC (g4 q) l i.1)], []⟩ : St)) (fun i => i.1 ≤ l.length ∧ i.2 = q + (4 * i.1 : Nat)) (fun i => l.length - i.1) (0, q) [] (⟨by simp, by simp⟩) ⟨trf, trf, ⟨⟨_, rfl, by exact mixM_zero _ _ _⟩, trivial⟩, tre, rfl⟩ ?_))))))))))))
 intro i hp
 obtain ⟨k, z⟩ := i
 have hp : k ≤ l.length ∧ z = q + (4 * k : Nat) := hp
 obtain ⟨p0, p1⟩ := hp
 show Ev _ _ _ _ (⟨[(5, iV k), (1, iV z), (0, .p false [.rt 900])], [], [(900, ty, 4, mixM ackC (g4 q) l k)], []⟩ : St)
 have hM : (mixM ackC (g4 q) l k).length = l.length := mixM_len p0
 refine sq (sq (rg (xm rfl rfl (xm rfl rfl (xo (q_len_rt ttOk rfl rfl rfl) rfl (xb ttOk rfl rfl (nl (et (ev_cond rfl (fun h1 => ?_) (fun h1 => ?_))))))))))
 ·have d1 := of_decide_eq_true h1
  refine ev_skip (et (sq (ev_blk (sq (rg (xm rfl rfl (xm rfl rfl (xm rfl rfl (xo (q_ix_rt (m := k) ttOk rfl rfl rfl rfl rfl rfl (by first | (rw [hM]; omega) | (rw [List.length_set, hM]; omega) | (simp only [List.length_set, hM]; omega))) rfl (xf ttOk rfl rfl (evl_e (e_st_pr ttOk rfl rfl rfl rfl rfl rfl rfl (mixM_at om) rfl rfl rfl rfl rfl) (nl (et (sq (rg (xm rfl rfl (xa rfl rfl rfl om rfl (xs rfl rfl (nl (et (sq (rg (xm rfl rfl (xm rfl rfl (xm rfl rfl (xo (q_ix_rt (m := k) ttOk rfl rfl rfl rfl rfl rfl (by first | (rw [hM]; omega) | (rw [List.length_set, hM]; omega) | (simp only [List.length_set, hM]; omega))) rfl (xf ttOk rfl rfl (evl_e (e_st_pr ttOk rfl rfl rfl rfl rfl rfl rfl (set_get (by first | (rw [hM]; omega) | (simp only [List.length_set, hM]; omega))) rfl rfl rfl rfl rfl) (nl (et (sq (rg (xm rfl rfl (xa rfl rfl rfl om rfl (xs rfl rfl (nl (et (sq (rg (xm rfl rfl (xm rfl rfl (xm rfl rfl (xo (q_ix_rt (m := k) ttOk rfl rfl rfl rfl rfl rfl (by first | (rw [hM]; omega) | (rw [List.length_set, hM]; omega) | (simp only [List.length_set, hM]; omega))) rfl (xf ttOk rfl rfl (evl_e (e_st_pr ttOk rfl rfl rfl rfl rfl rfl rfl (set_get (by first | (rw [hM]; omega) | (simp only [List.length_set, hM]; omega))) rfl rfl rfl rfl rfl) (nl (et (sq (rg (xm rfl rfl ?_))))))))))))))))))))))))))))))))))))))))))))))))))
  refine xa rfl rfl rfl om rfl (xs rfl rfl (nl (et (sq (rg (xm rfl rfl (xm rfl rfl (xm rfl rfl (xo (q_ix_rt (m := k) ttOk rfl rfl rfl rfl rfl rfl (by first | (rw [hM]; omega) | (rw [List.length_set, hM]; omega) | (simp only [List.length_set, hM]; omega))) rfl (xf ttOk rfl rfl (evl_e (e_st_pr ttOk rfl rfl rfl rfl rfl rfl rfl (set_get (by first | (rw [hM]; omega) | (simp only [List.length_set, hM]; omega))) rfl ((set2 (set2 (set2 (mixM_set om (by rw [p1]; rfl)))))) rfl rfl rfl) (nl (et (rg (xm rfl rfl (xa rfl rfl rfl om rfl (xs rfl rfl (nl (eb (et (rg (xm rfl rfl (xa rfl rfl rfl om rfl (xs rfl rfl (nl (eve_round (k + 1, _) [] ?hp ⟨trf, trf, ⟨⟨_, rfl, by rfl⟩, trivial⟩, tre, rfl⟩))))))))))))))))))))))))))
  case hp =>
   dsimp only
   exact ⟨⟨by omega, by omega⟩, by omega⟩
 ·have d1 := of_decide_eq_false h1
  refine ev_exit (evx_then (evx_then (evx_hit (et (sq (rg (xm rfl rfl (xs rfl rfl (nl (et (ev_ret (ret_mark ttOk rfl rfl rfl (⟨by rw [mixM_all p0 om], ?_⟩)))))))))))))
  obtain rfl : k = l.length := by omega
  omega
theorem m_entries (ty : Nat) (l : List Entry) (q : Int) (h : 0 ≤ q ∧ q + 9 * l.length ≤ 1099511627776) : Marks Tryz.prog 161 (false, [.s ty 9 (l.map entryC)]) (false, [.s ty 9 (mk9 q l.length)]) q (q + (9 * l.length : Nat)) := by
 refine marks_intro (N := 81) Tryz.func161 rfl rfl rfl rfl (fun w v F => ?_)
 refine sq (rg (xs rfl rfl (nl (et (sq (sq (rg (xs rfl rfl (nl (et (ev_blk (ev_loop (fun i : Nat × Int => (⟨[(5, iV i.1), (1, iV i.2), (0, .p false [.rt 900])], [], [(900, ty, 9, mixM entryC (g9 q) l i.1)], []⟩ : St)) (fun i => i.1 ≤ l.length ∧ i.2 = q + (9 * i.1 : Nat)) (fun i => l.length - i.1) (0, q) [] (⟨by simp, by simp⟩) ⟨trf, trf, ⟨⟨_, rfl, by exact mixM_zero _ _ _⟩, trivial⟩, tre, rfl⟩ ?_))))))))))))
 intro i hp
 obtain ⟨k, z⟩ := i
 have hp : k ≤ l.length ∧ z = q + (9 * k : Nat) := hp
 obtain ⟨p0, p1⟩ := hp
 show Ev _ _ _ _ (⟨[(5, iV k), (1, iV z), (0, .p false [.rt 900])], [], [(900, ty, 9, mixM entryC (g9 q) l k)], []⟩ : St)
 have hM : (mixM entryC (g9 q) l k).length = l.length := mixM_len p0
 refine sq (sq (rg (xm rfl rfl (xm rfl rfl (xo (q_len_rt ttOk rfl rfl rfl) rfl (xb ttOk rfl rfl (nl (et (ev_cond rfl (fun h1 => ?_) (fun h1 => ?_))))))))))
 ·have d1 := of_decide_eq_true h1
  refine ev_skip (et (sq (ev_blk (sq (rg (xm rfl rfl (xm rfl rfl (xm rfl rfl (xo (q_ix_rt (m := k) ttOk rfl rfl rfl rfl rfl rfl (by first | (rw [hM]; omega) | (rw [List.length_set, hM]; omega) | (simp only [List.length_set, hM]; omega))) rfl (xf ttOk rfl rfl (evl_e (e_st_pr ttOk rfl rfl rfl rfl rfl rfl rfl (mixM_at om) rfl rfl rfl rfl rfl) (nl (et (sq (rg (xm rfl rfl (xa rfl rfl rfl om rfl (xs rfl rfl (nl (et (sq (rg (xm rfl rfl (xm rfl rfl (xm rfl rfl (xo (q_ix_rt (m := k) ttOk rfl rfl rfl rfl rfl rfl (by first | (rw [hM]; omega) | (rw [List.length_set, hM]; omega) | (simp only [List.length_set, hM]; omega))) rfl (xf ttOk rfl rfl (evl_e (e_st_pr ttOk rfl rfl rfl rfl rfl rfl rfl (set_get (by first | (rw [hM]; omega) | (simp only [List.length_set, hM]; omega))) rfl rfl rfl rfl rfl) (nl (et (sq (rg (xm rfl rfl (xa rfl rfl rfl om rfl (xs rfl rfl (nl (et (sq (rg (xm rfl rfl (xm rfl rfl (xm rfl rfl (xo (q_ix_rt (m := k) ttOk rfl rfl rfl rfl rfl rfl (by first | (rw [hM]; omega) | (rw [List.length_set, hM]; omega) | (simp only [List.length_set, hM]; omega))) rfl (xf ttOk rfl rfl (evl_e (e_st_pr ttOk rfl rfl rfl rfl rfl rfl rfl (set_get (by first | (rw [hM]; omega) | (simp only [List.length_set, hM]; omega))) rfl rfl rfl rfl rfl) (nl (et (sq (rg (xm rfl rfl ?_))))))))))))))))))))))))))))))))))))))))))))))))))
  refine xa rfl rfl rfl om rfl (xs rfl rfl (nl (et (sq (rg (xm rfl rfl (xm rfl rfl (xm rfl rfl (xo (q_ix_rt (m := k) ttOk rfl rfl rfl rfl rfl rfl (by first | (rw [hM]; omega) | (rw [List.length_set, hM]; omega) | (simp only [List.length_set, hM]; omega))) rfl (xf ttOk rfl rfl (evl_e (e_st_pr ttOk rfl rfl rfl rfl rfl rfl rfl (set_get (by first | (rw [hM]; omega) | (simp only [List.length_set, hM]; omega))) rfl rfl rfl rfl rfl) (nl (et (sq (rg (xm rfl rfl (xa rfl rfl rfl om rfl (xs rfl rfl (nl (et (sq (rg (xm rfl rfl (xm rfl rfl (xm rfl rfl (xo (q_ix_rt (m := k) ttOk rfl rfl rfl rfl rfl rfl (by first | (rw [hM]; omega) | (rw [List.length_set, hM]; omega) | (simp only [List.length_set, hM]; omega))) rfl (xf ttOk rfl rfl (xf ttOk rfl rfl (evl_e (e_st_pr ttOk rfl rfl rfl rfl rfl rfl rfl (set_get (by first | (rw [hM]; omega) | (simp only [List.length_set, hM]; omega))) rfl rfl rfl rfl rfl) (nl (et (sq (rg (xm rfl rfl (xa rfl rfl rfl om rfl (xs rfl rfl (nl (et (sq (rg (xm rfl rfl (xm rfl rfl (xm rfl rfl (xo (q_ix_rt (m := k) ttOk rfl rfl rfl rfl rfl rfl (by first | (rw [hM]; omega) | (rw [List.length_set, hM]; omega) | (simp only [List.length_set, hM]; omega))) rfl (xf ttOk rfl rfl (xf ttOk rfl rfl (evl_e (e_st_pr ttOk rfl rfl rfl rfl rfl rfl rfl (set_get (by first | (rw [hM]; omega) | (simp only [List.length_set, hM]; omega))) rfl rfl rfl rfl rfl) (nl (et (sq ?_))))))))))))))))))))))))))))))))))))))))))))))))))
  refine rg (xm rfl rfl (xa rfl rfl rfl om rfl (xs rfl rfl (nl (et (sq (rg (xm rfl rfl (xm rfl rfl (xm rfl rfl (xo (q_ix_rt (m := k) ttOk rfl rfl rfl rfl rfl rfl (by first | (rw [hM]; omega) | (rw [List.length_set, hM]; omega) | (simp only [List.length_set, hM]; omega))) rfl (xf ttOk rfl rfl (xf ttOk rfl rfl (evl_e (e_st_pr ttOk rfl rfl rfl rfl rfl rfl rfl (set_get (by first | (rw [hM]; omega) | (simp only [List.length_set, hM]; omega))) rfl rfl rfl rfl rfl) (nl (et (sq (rg (xm rfl rfl (xa rfl rfl rfl om rfl (xs rfl rfl (nl (et (sq (rg (xm rfl rfl (xm rfl rfl (xm rfl rfl (xo (q_ix_rt (m := k) ttOk rfl rfl rfl rfl rfl rfl (by first | (rw [hM]; omega) | (rw [List.length_set, hM]; omega) | (simp only [List.length_set, hM]; omega))) rfl (xf ttOk rfl rfl (xf ttOk rfl rfl (evl_e (e_st_pr ttOk rfl rfl rfl rfl rfl rfl rfl (set_get (by first | (rw [hM]; omega) | (simp only [List.length_set, hM]; omega))) rfl rfl rfl rfl rfl) (nl (et (sq (rg (xm rfl rfl (xa rfl rfl rfl om rfl (xs rfl rfl (nl (et (sq (rg (xm rfl rfl (xm rfl rfl (xm rfl rfl (xo (q_ix_rt (m := k) ttOk rfl rfl rfl rfl rfl rfl (by first | (rw [hM]; omega) | (rw [List.length_set, hM]; omega) | (simp only [List.length_set, hM]; omega))) rfl (xf ttOk rfl rfl (xf ttOk rfl rfl (evl_e (e_st_pr ttOk rfl rfl rfl rfl rfl rfl rfl (set_get (by first | (rw [hM]; omega) | (simp only [List.length_set, hM]; omega))) rfl ((set2 (set2 (set2 (set2 (set2 (set2 (set2 (set2 (mixM_set om (by rw [p1]; rfl))))))))))) rfl rfl rfl) ?_))))))))))))))))))))))))))))))))))))))))))))))))))
  refine nl (et (rg (xm rfl rfl (xa rfl rfl rfl om rfl (xs rfl rfl (nl (eb (et (rg (xm rfl rfl (xa rfl rfl rfl om rfl (xs rfl rfl (nl (eve_round (k + 1, _) [] ?hp ⟨trf, trf, ⟨⟨_, rfl, by rfl⟩, trivial⟩, tre, rfl⟩))))))))))))))
  case hp =>
   dsimp only
   exact ⟨⟨by omega, by omega⟩, by omega⟩
 ·have d1 := of_decide_eq_false h1
  refine ev_exit (evx_then (evx_then (evx_hit (et (sq (rg (xm rfl rfl (xs rfl rfl (nl (et (ev_ret (ret_mark ttOk rfl rfl rfl (⟨by rw [mixM_all p0 om], ?_⟩)))))))))))))
  obtain rfl : k = l.length := by omega
  omega
end Go.Proofs.YtinmcdcmidlgpaaGreatDoor
