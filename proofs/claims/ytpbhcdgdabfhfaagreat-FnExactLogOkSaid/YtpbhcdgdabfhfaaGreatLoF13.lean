/- Walks of functions of the program, printed by a program of the prover. -/
import Derived.Test.YtpbhcdgdabfhfaaGreatLoF12
namespace Go.Proofs.YtpbhcdgdabfhfaaGreat
open Go.ChangeShapes Go.WideShapes Go.ChangeAt Go.RowKit
set_option linter.unusedVariables false
set_option linter.unusedSimpArgs false
set_option maxHeartbeats 1000000
set_option maxRecDepth 100000
attribute [local irreducible] EvL Ev EvE Quiet Eff Pure RDk RDb RDo
def sumN {α : Type} (f : α → Nat) (l : List α) : Nat := (l.map f).sum
theorem sumN_next {α : Type} {f : α → Nat} {l : List α} {k : Nat} (hk : k < l.length) : sumN f (l.take (k + 1)) = sumN f (l.take k) + f l[k] := by
  unfold sumN
  rw [List.take_succ_eq_append_getElem hk, List.map_append, List.sum_append]
  simp only [List.map_cons, List.map_nil, List.sum_cons, List.sum_nil, Nat.add_zero]
theorem sumN_le {α : Type} (f : α → Nat) : ∀ (l : List α) (k : Nat), sumN f (l.take k) ≤ sumN f l
  | [], k => by simp [sumN]
  | a :: l, 0 => by simp [sumN]
  | a :: l, k + 1 => by have := sumN_le f l k; simp only [sumN, List.take_succ_cons, List.map_cons, List.sum_cons] at *; omega
theorem sumN_all {α : Type} {f : α → Nat} {l : List α} {k : Nat} (hk : ¬ k < l.length) : sumN f (l.take k) = sumN f l := by rw [List.take_of_length_le (by omega)]
theorem sumN_mem {α : Type} {f : α → Nat} {l : List α} {k : Nat} (hk : k < l.length) : f l[k] ≤ sumN f l := by
  have := sumN_le f l (k + 1)
  rw [sumN_next hk] at this
  omega
def rowsN (K : List (List Int)) : Nat := K.length + sumN List.length K
def writesN (W : List (Int × List Int)) : Nat := W.length + sumN (fun x => x.2.length) W
def diskN (d : Disk) : Nat := rowsN d.kept + writesN d.wait
def twoN (t : Two) : Nat := diskN t.a + diskN t.b
def szB (z : Int) (n : Nat) : Int := if z < n then -1 else z - n
theorem szB_is {z v : Int} {n : Nat} (h1 : z < n → v = -1) (h2 : ¬ z < n → v = z - n) : v = szB z n := by unfold szB; split <;> simp_all
theorem szB_neg {z : Int} {n : Nat} (h : szB z n < 0) : z < n := by unfold szB at h; split at h <;> omega
theorem szB_pos {z : Int} {n : Nat} (h : ¬ szB z n < 0) : (n : Int) ≤ z ∧ szB z n = z - n := by unfold szB at *; split at h <;> omega
def mixR {α : Type} (f : α → List C) (z : List C) (l : List α) (k : Nat) : List (List C) := (l.take k).map f ++ List.replicate (l.length - k) z
theorem mixR_zero {α : Type} (f : α → List C) (z : List C) (l : List α) : List.replicate l.length z = mixR f z l 0 := by simp [mixR]
theorem mixR_len {α : Type} {f : α → List C} {z : List C} {l : List α} {k : Nat} (hk : k ≤ l.length) : (mixR f z l k).length = l.length := by simp [mixR]; omega
theorem mixR_at {α : Type} {f : α → List C} {z : List C} {l : List α} {k : Nat} (hk : k < l.length) : (mixR f z l k)[k]? = some z := by
  unfold mixR
  rw [List.getElem?_append_right (by simp; omega)]
  simp only [List.length_map, List.length_take, List.getElem?_replicate]
  rw [if_pos (by omega)]
theorem mixR_set {α : Type} {f : α → List C} {z : List C} {l : List α} {k : Nat} (hk : k < l.length) : mixR f z l (k + 1) = (mixR f z l k).set k (f l[k]) := by
  unfold mixR
  have h1 : ((l.take k).map f).length = k := by simp; omega
  rw [List.set_append_right _ _ (by omega), h1, Nat.sub_self, List.take_succ_eq_append_getElem hk]
  have h2 : l.length - k = (l.length - (k + 1)) + 1 := by omega
  rw [h2, List.replicate_succ]
  simp only [List.map_append, List.map_cons, List.map_nil, List.set_cons_zero, List.append_assoc, List.cons_append, List.nil_append]
theorem mixR_all {α : Type} {f : α → List C} {z : List C} {l : List α} {k : Nat} (hk : ¬ k < l.length) : mixR f z l k = l.map f := by
  unfold mixR
  rw [List.take_of_length_le (by omega), show l.length - k = 0 by omega]
  simp
theorem z_ints (l : List Int) (z : Int) (h : 0 ≤ z ∧ z ≤ 1048576) : Pure Tryz.prog 217 [one (ints l), one (iC z)] (iR (szB z l.length)) := by
 refine pure_intro (N := 12) Tryz.func217 rfl rfl rfl rfl (fun H w => ?_)
 refine ev_lenm (t := 0) rfl (fun hL => ?_)
 refine sq (rg (xs rfl rfl (nl (et (sq (rg (xm rfl rfl (xm rfl rfl (xo (q_len_map ttOk rfl rfl) rfl (xa rfl rfl rfl (by omega) rfl (xs rfl rfl (nl (et (sq (sq (rg (xm rfl rfl (xb ttOk rfl rfl (nl (et (ev_cond rfl (fun h1 => ?_) (fun h1 => ?_))))))))))))))))))))))
 · have d1 := of_decide_eq_true h1
   refine sq (rg (xs rfl rfl (nl (et (ev_ret (evr_then (ret_pure' ttOk rfl rfl (congrArg iR (?_ : _ = _)))))))))
   exact szB_is (fun _ => by omega) (fun _ => by omega)
 · have d1 := of_decide_eq_false h1
   refine ev_skip (et (sq (rg (xm rfl rfl (xs rfl rfl (nl (et (ev_ret (ret_pure' ttOk rfl rfl (congrArg iR (?_ : _ = _)))))))))))
   exact szB_is (fun _ => by omega) (fun _ => by omega)
theorem z_marks (l : List Mark) (z : Int) (h : 0 ≤ z ∧ z ≤ 1048576) : Pure Tryz.prog 69 [one (marks l), one (iC z)] (iR (szB z l.length)) := by
 refine pure_intro (N := 12) Tryz.func69 rfl rfl rfl rfl (fun H w => ?_)
 refine ev_lenm (t := 0) rfl (fun hL => ?_)
 refine sq (rg (xs rfl rfl (nl (et (sq (rg (xm rfl rfl (xm rfl rfl (xo (q_len_map ttOk rfl rfl) rfl (xa rfl rfl rfl (by omega) rfl (xs rfl rfl (nl (et (sq (sq (rg (xm rfl rfl (xb ttOk rfl rfl (nl (et (ev_cond rfl (fun h1 => ?_) (fun h1 => ?_))))))))))))))))))))))
 · have d1 := of_decide_eq_true h1
   refine sq (rg (xs rfl rfl (nl (et (ev_ret (evr_then (ret_pure' ttOk rfl rfl (congrArg iR (?_ : _ = _)))))))))
   exact szB_is (fun _ => by omega) (fun _ => by omega)
 · have d1 := of_decide_eq_false h1
   refine ev_skip (et (sq (rg (xm rfl rfl (xs rfl rfl (nl (et (ev_ret (ret_pure' ttOk rfl rfl (congrArg iR (?_ : _ = _)))))))))))
   exact szB_is (fun _ => by omega) (fun _ => by omega)
theorem z_entries (l : List Entry) (z : Int) (h : 0 ≤ z ∧ z ≤ 1048576) : Pure Tryz.prog 141 [one (entries l), one (iC z)] (iR (szB z l.length)) := by
 refine pure_intro (N := 12) Tryz.func141 rfl rfl rfl rfl (fun H w => ?_)
 refine ev_lenm (t := 0) rfl (fun hL => ?_)
 refine sq (rg (xs rfl rfl (nl (et (sq (rg (xm rfl rfl (xm rfl rfl (xo (q_len_map ttOk rfl rfl) rfl (xa rfl rfl rfl (by omega) rfl (xs rfl rfl (nl (et (sq (sq (rg (xm rfl rfl (xb ttOk rfl rfl (nl (et (ev_cond rfl (fun h1 => ?_) (fun h1 => ?_))))))))))))))))))))))
 · have d1 := of_decide_eq_true h1
   refine sq (rg (xs rfl rfl (nl (et (ev_ret (evr_then (ret_pure' ttOk rfl rfl (congrArg iR (?_ : _ = _)))))))))
   exact szB_is (fun _ => by omega) (fun _ => by omega)
 · have d1 := of_decide_eq_false h1
   refine ev_skip (et (sq (rg (xm rfl rfl (xs rfl rfl (nl (et (ev_ret (ret_pure' ttOk rfl rfl (congrArg iR (?_ : _ = _)))))))))))
   exact szB_is (fun _ => by omega) (fun _ => by omega)
theorem z_acks (l : List Ack) (z : Int) (h : 0 ≤ z ∧ z ≤ 1048576) : Pure Tryz.prog 70 [one (acks l), one (iC z)] (iR (szB z l.length)) := by
 refine pure_intro (N := 12) Tryz.func70 rfl rfl rfl rfl (fun H w => ?_)
 refine ev_lenm (t := 0) rfl (fun hL => ?_)
 refine sq (rg (xs rfl rfl (nl (et (sq (rg (xm rfl rfl (xm rfl rfl (xo (q_len_map ttOk rfl rfl) rfl (xa rfl rfl rfl (by omega) rfl (xs rfl rfl (nl (et (sq (sq (rg (xm rfl rfl (xb ttOk rfl rfl (nl (et (ev_cond rfl (fun h1 => ?_) (fun h1 => ?_))))))))))))))))))))))
 · have d1 := of_decide_eq_true h1
   refine sq (rg (xs rfl rfl (nl (et (ev_ret (evr_then (ret_pure' ttOk rfl rfl (congrArg iR (?_ : _ = _)))))))))
   exact szB_is (fun _ => by omega) (fun _ => by omega)
 · have d1 := of_decide_eq_false h1
   refine ev_skip (et (sq (rg (xm rfl rfl (xs rfl rfl (nl (et (ev_ret (ret_pure' ttOk rfl rfl (congrArg iR (?_ : _ = _)))))))))))
   exact szB_is (fun _ => by omega) (fun _ => by omega)
theorem z_write (x : Int × List Int) (z : Int) (h : 0 ≤ z ∧ z ≤ 1048576) : Pure Tryz.prog 218 [many [iC x.1, ints x.2], one (iC z)] (iR (szB z x.2.length)) := by
 refine pure_intro (N := 12) Tryz.func218 rfl rfl rfl rfl (fun H w => ?_)
 refine sq (rg (evl_e (e_box rfl rfl rfl rfl) (xs rfl rfl (nl (et (sq (rg (xf ttOk rfl rfl (xl ttOk rfl rfl (xm rfl rfl (evl_call (nm := 8) (cf rfl) (z_ints _ _ (by omega)) (rs_of rfl) rfl rfl rfl (xs rfl rfl (nl (et (sq (sq (rg (xm rfl rfl (xb ttOk rfl rfl (nl (et (ev_cond rfl (fun h1 => ?_) (fun h1 => ?_)))))))))))))))))))))))
 · have d1 := of_decide_eq_true h1
   have e1 := szB_neg d1
   refine sq (rg (xs rfl rfl (nl (et (ev_ret (evr_then (ret_pure' ttOk rfl rfl (congrArg iR (?_ : _ = _)))))))))
   exact szB_is (fun _ => by omega) (fun _ => by omega)
 · have d1 := of_decide_eq_false h1
   have e1 := szB_pos d1
   refine ev_skip (et (sq (rg (xm rfl rfl (xs rfl rfl (nl (et (ev_ret (ret_pure' ttOk rfl rfl (congrArg iR (?_ : _ = _)))))))))))
   exact szB_is (fun _ => by omega) (fun _ => by omega)
theorem z_rows (K : List (List Int)) (z : Int) (h : 0 ≤ z ∧ z ≤ 1048576) : Pure Tryz.prog 163 [one (rows K), one (iC z)] (iR (szB z (rowsN K))) := by
 refine pure_intro (N := 27) Tryz.func163 rfl rfl rfl rfl (fun H w => ?_)
 refine ev_lenm (t := 0) rfl (fun hL => ?_)
 refine sq (rg (xs rfl rfl (nl (et (sq (rg (xm rfl rfl (xm rfl rfl (xo (q_len_map ttOk rfl rfl) rfl (xa rfl rfl rfl (by omega) rfl (xs rfl rfl (nl (et (sq (sq (rg (xm rfl rfl (xb ttOk rfl rfl (nl (et (ev_cond rfl (fun h1 => ?_) (fun h1 => ?_))))))))))))))))))))))
 · have d1 := of_decide_eq_true h1
   refine sq (rg (xs rfl rfl (nl (et (ev_ret (evr_then (ret_pure' ttOk rfl rfl ?_)))))))
   unfold rowsN
   refine congrArg iR (?_ : _ = _)
   exact szB_is (fun _ => by omega) (fun _ => by omega)
 · have d1 := of_decide_eq_false h1
   refine ev_skip (et (sq (sq (rg (xs rfl rfl (nl (et (ev_blk (ev_loop (fun i : Nat × Int => (⟨[(5, iV i.1), (0, cV (rows K)), (1, iV i.2)], [], [], []⟩ : St)) (fun i => i.1 ≤ K.length ∧ i.2 = z - K.length - sumN List.length (K.take i.1) ∧ 0 ≤ i.2) (fun i => K.length - i.1) (0, z - K.length) [] (⟨by simp, by simp [sumN], by omega⟩) ⟨by (repeat first | exact trivial | refine ⟨rfl, ?_⟩), by (repeat first | exact trivial | refine ⟨rfl, ?_⟩), by (repeat first | exact trivial | refine ⟨⟨_, rfl, rfl⟩, ?_⟩), by (repeat first | exact trivial | refine ⟨⟨_, rfl, rfl⟩, ?_⟩), rfl⟩ ?_)))))))))
   intro i hp
   obtain ⟨k, y⟩ := i
   have hp : k ≤ K.length ∧ y = z - K.length - sumN List.length (K.take k) ∧ 0 ≤ y := hp
   obtain ⟨p0, p1, p2⟩ := hp
   show Ev _ _ _ _ (⟨[(5, iV k), (0, cV (rows K)), (1, iV y)], [], [], []⟩ : St)
   refine sq (sq (rg (xm rfl rfl (xm rfl rfl (xo (q_len_map ttOk rfl rfl) rfl (xb ttOk rfl rfl (nl (et (ev_cond rfl (fun h2 => ?_) (fun h2 => ?_))))))))))
   · have d2 := of_decide_eq_true h2
     have s1 := sumN_next (f := List.length) (l := K) (k := k) (by omega)
     have s2 := sumN_le List.length K (k + 1)
     refine ev_skip (et (sq (ev_blk (sq (rg (xm rfl rfl (xm rfl rfl (xo (q_ix_map ttOk rfl rfl rfl rfl (by omega)) rfl (xl ttOk rfl rfl (xm rfl rfl (evl_call (nm := 23) (cf rfl) (z_ints (K[k]'(by omega)) _ (by omega)) (rs_of rfl) rfl rfl rfl (xs rfl rfl (nl (et (sq (rg (xm rfl rfl (xb ttOk rfl rfl (nl (et (ev_cond rfl (fun h3 => ?_) (fun h3 => ?_))))))))))))))))))))))
     · have d3 := of_decide_eq_true h3
       have e3 := szB_neg d3
       refine sq (rg (xs rfl rfl (nl (et (ev_ret (evr_blk (evr_then (evr_then (evr_blk (evr_then (ret_pure' ttOk rfl rfl ?_)))))))))))
       unfold rowsN
       refine congrArg iR (?_ : _ = _)
       exact szB_is (fun _ => by omega) (fun _ => by omega)
     · have d3 := of_decide_eq_false h3
       have e3 := szB_pos d3
       refine ev_skip (eb (et (rg (xm rfl rfl (xa rfl rfl rfl (by omega) rfl (xs rfl rfl (nl (eve_round (k + 1, szB y (K[k]'(by omega)).length) [] ?hp ⟨by (repeat first | exact trivial | refine ⟨rfl, ?_⟩), by (repeat first | exact trivial | refine ⟨rfl, ?_⟩), by (repeat first | exact trivial | refine ⟨⟨_, rfl, rfl⟩, ?_⟩), by (repeat first | exact trivial | refine ⟨⟨_, rfl, rfl⟩, ?_⟩), rfl⟩))))))))
       case hp =>
         dsimp only
         exact ⟨⟨by omega, by omega, by omega⟩, by omega⟩
   · have d2 := of_decide_eq_false h2
     have s3 := sumN_all (f := List.length) (l := K) (k := k) (by omega)
     refine ev_exit (evx_then (evx_then (evx_hit (et (sq (rg (xm rfl rfl (xs rfl rfl (nl (et (ev_ret (ret_pure' ttOk rfl rfl ?_))))))))))))
     unfold rowsN
     refine congrArg iR (?_ : _ = _)
     exact szB_is (fun _ => by omega) (fun _ => by omega)
theorem z_writes (W : List (Int × List Int)) (z : Int) (h : 0 ≤ z ∧ z ≤ 1048576) : Pure Tryz.prog 164 [one (writes W), one (iC z)] (iR (szB z (writesN W))) := by
 refine pure_intro (N := 27) Tryz.func164 rfl rfl rfl rfl (fun H w => ?_)
 refine ev_lenm (t := 0) rfl (fun hL => ?_)
 refine sq (rg (xs rfl rfl (nl (et (sq (rg (xm rfl rfl (xm rfl rfl (xo (q_len_map ttOk rfl rfl) rfl (xa rfl rfl rfl (by omega) rfl (xs rfl rfl (nl (et (sq (sq (rg (xm rfl rfl (xb ttOk rfl rfl (nl (et (ev_cond rfl (fun h1 => ?_) (fun h1 => ?_))))))))))))))))))))))
 · have d1 := of_decide_eq_true h1
   refine sq (rg (xs rfl rfl (nl (et (ev_ret (evr_then (ret_pure' ttOk rfl rfl ?_)))))))
   unfold writesN
   refine congrArg iR (?_ : _ = _)
   exact szB_is (fun _ => by omega) (fun _ => by omega)
 · have d1 := of_decide_eq_false h1
   refine ev_skip (et (sq (sq (rg (xs rfl rfl (nl (et (ev_blk (ev_loop (fun i : Nat × Int => (⟨[(5, iV i.1), (0, cV (writes W)), (1, iV i.2)], [], [], []⟩ : St)) (fun i => i.1 ≤ W.length ∧ i.2 = z - W.length - sumN (fun x => x.2.length) (W.take i.1) ∧ 0 ≤ i.2) (fun i => W.length - i.1) (0, z - W.length) [] (⟨by simp, by simp [sumN], by omega⟩) ⟨by (repeat first | exact trivial | refine ⟨rfl, ?_⟩), by (repeat first | exact trivial | refine ⟨rfl, ?_⟩), by (repeat first | exact trivial | refine ⟨⟨_, rfl, rfl⟩, ?_⟩), by (repeat first | exact trivial | refine ⟨⟨_, rfl, rfl⟩, ?_⟩), rfl⟩ ?_)))))))))
   intro i hp
   obtain ⟨k, y⟩ := i
   have hp : k ≤ W.length ∧ y = z - W.length - sumN (fun x => x.2.length) (W.take k) ∧ 0 ≤ y := hp
   obtain ⟨p0, p1, p2⟩ := hp
   show Ev _ _ _ _ (⟨[(5, iV k), (0, cV (writes W)), (1, iV y)], [], [], []⟩ : St)
   refine sq (sq (rg (xm rfl rfl (xm rfl rfl (xo (q_len_map ttOk rfl rfl) rfl (xb ttOk rfl rfl (nl (et (ev_cond rfl (fun h2 => ?_) (fun h2 => ?_))))))))))
   · have d2 := of_decide_eq_true h2
     have s1 := sumN_next (f := (fun x => x.2.length)) (l := W) (k := k) (by omega)
     have s2 := sumN_le (fun x => x.2.length) W (k + 1)
     refine ev_skip (et (sq (ev_blk (sq (rg (xm rfl rfl (xm rfl rfl (xo (q_ix_map ttOk rfl rfl rfl rfl (by omega)) rfl (xl ttOk rfl rfl (xm rfl rfl (evl_call (nm := 23) (cf rfl) (z_write (W[k]'(by omega)) _ (by omega)) (rs_of rfl) rfl rfl rfl (xs rfl rfl (nl (et (sq (rg (xm rfl rfl (xb ttOk rfl rfl (nl (et (ev_cond rfl (fun h3 => ?_) (fun h3 => ?_))))))))))))))))))))))
     · have d3 := of_decide_eq_true h3
       have e3 := szB_neg d3
       refine sq (rg (xs rfl rfl (nl (et (ev_ret (evr_blk (evr_then (evr_then (evr_blk (evr_then (ret_pure' ttOk rfl rfl ?_)))))))))))
       unfold writesN
       refine congrArg iR (?_ : _ = _)
       exact szB_is (fun _ => by omega) (fun _ => by omega)
     · have d3 := of_decide_eq_false h3
       have e3 := szB_pos d3
       refine ev_skip (eb (et (rg (xm rfl rfl (xa rfl rfl rfl (by omega) rfl (xs rfl rfl (nl (eve_round (k + 1, szB y (W[k]'(by omega)).2.length) [] ?hp ⟨by (repeat first | exact trivial | refine ⟨rfl, ?_⟩), by (repeat first | exact trivial | refine ⟨rfl, ?_⟩), by (repeat first | exact trivial | refine ⟨⟨_, rfl, rfl⟩, ?_⟩), by (repeat first | exact trivial | refine ⟨⟨_, rfl, rfl⟩, ?_⟩), rfl⟩))))))))
       case hp =>
         dsimp only
         exact ⟨⟨by omega, by omega, by omega⟩, by omega⟩
   · have d2 := of_decide_eq_false h2
     have s3 := sumN_all (f := (fun x => x.2.length)) (l := W) (k := k) (by omega)
     refine ev_exit (evx_then (evx_then (evx_hit (et (sq (rg (xm rfl rfl (xs rfl rfl (nl (et (ev_ret (ret_pure' ttOk rfl rfl ?_))))))))))))
     unfold writesN
     refine congrArg iR (?_ : _ = _)
     exact szB_is (fun _ => by omega) (fun _ => by omega)
theorem z_disk (d : Disk) (z : Int) (h : 0 ≤ z ∧ z ≤ 1048576) : Pure Tryz.prog 94 [many (diskC d), one (iC z)] (iR (szB z (diskN d))) := by
 refine pure_intro (N := 18) Tryz.func94 rfl rfl rfl rfl (fun H w => ?_)
 refine sq (rg (evl_e (e_box rfl rfl rfl rfl) (xs rfl rfl (nl (et (sq (rg (xf ttOk rfl rfl (xl ttOk rfl rfl (xm rfl rfl (evl_call (nm := 8) (cf rfl) (z_rows _ _ (by omega)) (rs_of rfl) rfl rfl rfl (xs rfl rfl (nl (et (sq (sq (rg (xm rfl rfl (xb ttOk rfl rfl (nl (et (ev_cond rfl (fun h1 => ?_) (fun h1 => ?_)))))))))))))))))))))))
 · have d1 := of_decide_eq_true h1
   have e1 := szB_neg d1
   refine sq (rg (xs rfl rfl (nl (et (ev_ret (evr_then (ret_pure' ttOk rfl rfl ?_)))))))
   unfold diskN
   refine congrArg iR (?_ : _ = _)
   exact szB_is (fun _ => by omega) (fun _ => by omega)
 · have d1 := of_decide_eq_false h1
   have e1 := szB_pos d1
   refine ev_skip (et (sq (rg (xf ttOk rfl rfl (xl ttOk rfl rfl (xm rfl rfl (evl_call (nm := 14) (cf rfl) (z_writes _ _ (by omega)) (rs_of rfl) rfl rfl rfl (xs rfl rfl (nl (et (sq (sq (rg (xm rfl rfl (xb ttOk rfl rfl (nl (et (ev_cond rfl (fun h2 => ?_) (fun h2 => ?_)))))))))))))))))))
   · have d2 := of_decide_eq_true h2
     have e2 := szB_neg d2
     refine sq (rg (xs rfl rfl (nl (et (ev_ret (evr_then (ret_pure' ttOk rfl rfl ?_)))))))
     unfold diskN
     refine congrArg iR (?_ : _ = _)
     exact szB_is (fun _ => by omega) (fun _ => by omega)
   · have d2 := of_decide_eq_false h2
     have e2 := szB_pos d2
     refine ev_skip (et (sq (rg (xm rfl rfl (xs rfl rfl (nl (et (ev_ret (ret_pure' ttOk rfl rfl ?_)))))))))
     unfold diskN
     refine congrArg iR (?_ : _ = _)
     exact szB_is (fun _ => by omega) (fun _ => by omega)
theorem z_two (t : Two) (z : Int) (h : 0 ≤ z ∧ z ≤ 1048576) : Pure Tryz.prog 22 [many (twoC t), one (iC z)] (iR (szB z (twoN t))) := by
 refine pure_intro (N := 18) Tryz.func22 rfl rfl rfl rfl (fun H w => ?_)
 refine sq (rg (evl_e (e_box rfl rfl rfl rfl) (xs rfl rfl (nl (et (sq (rg (xf ttOk rfl rfl (xl ttOk rfl rfl (xm rfl rfl ?_))))))))))
 first | refine evl_call (nm := 8) (cf rfl) (z_disk t.a _ (by omega)) (rs_of rfl) rfl rfl rfl ?_ | refine evl_call (nm := 8) (cf rfl) (z_disk t.b _ (by omega)) (rs_of rfl) rfl rfl rfl ?_
 refine xs rfl rfl (nl (et (sq (sq (rg (xm rfl rfl (xb ttOk rfl rfl (nl (et (ev_cond rfl (fun h1 => ?_) (fun h1 => ?_)))))))))))
 · have d1 := of_decide_eq_true h1
   have e1 := szB_neg d1
   refine sq (rg (xs rfl rfl (nl (et (ev_ret (evr_then (ret_pure' ttOk rfl rfl ?_)))))))
   unfold twoN
   refine congrArg iR (?_ : _ = _)
   exact szB_is (fun _ => by omega) (fun _ => by omega)
 · have d1 := of_decide_eq_false h1
   have e1 := szB_pos d1
   refine ev_skip (et (sq (rg (xf ttOk rfl rfl (xl ttOk rfl rfl (xm rfl rfl ?_))))))
   first | refine evl_call (nm := 14) (cf rfl) (z_disk t.a _ (by omega)) (rs_of rfl) rfl rfl rfl ?_ | refine evl_call (nm := 14) (cf rfl) (z_disk t.b _ (by omega)) (rs_of rfl) rfl rfl rfl ?_
   refine xs rfl rfl (nl (et (sq (sq (rg (xm rfl rfl (xb ttOk rfl rfl (nl (et (ev_cond rfl (fun h2 => ?_) (fun h2 => ?_)))))))))))
   · have d2 := of_decide_eq_true h2
     have e2 := szB_neg d2
     refine sq (rg (xs rfl rfl (nl (et (ev_ret (evr_then (ret_pure' ttOk rfl rfl ?_)))))))
     unfold twoN
     refine congrArg iR (?_ : _ = _)
     exact szB_is (fun _ => by omega) (fun _ => by omega)
   · have d2 := of_decide_eq_false h2
     have e2 := szB_pos d2
     refine ev_skip (et (sq (rg (xm rfl rfl (xs rfl rfl (nl (et (ev_ret (ret_pure' ttOk rfl rfl ?_)))))))))
     unfold twoN
     refine congrArg iR (?_ : _ = _)
     exact szB_is (fun _ => by omega) (fun _ => by omega)
theorem z_head (x : Head) (z : Int) (h : 0 ≤ z ∧ z ≤ 1048576) : Pure Tryz.prog 23 [many (headC x), one (iC z)] (iR (szB z x.seen.length)) := by
 refine pure_intro (N := 12) Tryz.func23 rfl rfl rfl rfl (fun H w => ?_)
 refine sq (rg (evl_e (e_box rfl rfl rfl rfl) (xs rfl rfl (nl (et (sq (rg (xf ttOk rfl rfl (xl ttOk rfl rfl (xm rfl rfl (evl_call (nm := 8) (cf rfl) (z_marks _ _ (by omega)) (rs_of rfl) rfl rfl rfl (xs rfl rfl (nl (et (sq (sq (rg (xm rfl rfl (xb ttOk rfl rfl (nl (et (ev_cond rfl (fun h1 => ?_) (fun h1 => ?_)))))))))))))))))))))))
 · have d1 := of_decide_eq_true h1
   have e1 := szB_neg d1
   refine sq (rg (xs rfl rfl (nl (et (ev_ret (evr_then (ret_pure' ttOk rfl rfl (congrArg iR (?_ : _ = _)))))))))
   exact szB_is (fun _ => by omega) (fun _ => by omega)
 · have d1 := of_decide_eq_false h1
   have e1 := szB_pos d1
   refine ev_skip (et (sq (rg (xm rfl rfl (xs rfl rfl (nl (et (ev_ret (ret_pure' ttOk rfl rfl (congrArg iR (?_ : _ = _)))))))))))
   exact szB_is (fun _ => by omega) (fun _ => by omega)

end Go.Proofs.YtpbhcdgdabfhfaaGreat
