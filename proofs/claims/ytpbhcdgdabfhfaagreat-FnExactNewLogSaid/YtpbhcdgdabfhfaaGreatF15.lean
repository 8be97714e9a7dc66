/- Walks of functions of the program, printed by a program of the prover. -/
import Derived.Test.YtpbhcdgdabfhfaaGreatF14
import Derived.Test.YtpbhcdgdabfhfaaGreatVK
namespace Go.Proofs.YtpbhcdgdabfhfaaGreat
open Go.ChangeShapes Go.WideShapes Go.ChangeAt Go.RowKit
set_option linter.unusedVariables false
set_option linter.unusedSimpArgs false
set_option maxHeartbeats 1000000
set_option maxRecDepth 100000
attribute [local irreducible] EvL Ev EvE Quiet Eff Pure RDk RDb RDo
def mixM {α : Type} (f : α → List C) (g : Nat → List C) (l : List α) (k : Nat) : List (List C) := (List.range k).map g ++ (l.drop k).map f
theorem mixM_zero {α : Type} (f : α → List C) (g : Nat → List C) (l : List α) : l.map f = mixM f g l 0 := by simp [mixM]
theorem mixM_len {α : Type} {f : α → List C} {g : Nat → List C} {l : List α} {k : Nat} (hk : k ≤ l.length) : (mixM f g l k).length = l.length := by simp [mixM]; omega
theorem mixM_at {α : Type} {f : α → List C} {g : Nat → List C} {l : List α} {k : Nat} (hk : k < l.length) : (mixM f g l k)[k]? = some (f l[k]) := by
  unfold mixM
  rw [List.getElem?_append_right (by simp), List.length_map, List.length_range, Nat.sub_self, List.drop_eq_getElem_cons hk]
  rfl
theorem mixM_set {α : Type} {f : α → List C} {g : Nat → List C} {l : List α} {k : Nat} {row : List C} (hk : k < l.length) (hr : row = g k) : mixM f g l (k + 1) = (mixM f g l k).set k row := by
  subst hr
  unfold mixM
  have h1 : ((List.range k).map g).length = k := by simp
  rw [List.set_append_right _ _ (by omega), h1, Nat.sub_self, List.drop_eq_getElem_cons hk, List.range_succ]
  simp only [List.map_append, List.map_cons, List.map_nil, List.set_cons_zero, List.append_assoc, List.cons_append, List.nil_append]
theorem mixM_all {α : Type} {f : α → List C} {g : Nat → List C} {l : List α} {k : Nat} (hk : k ≤ l.length) (hk2 : ¬ k < l.length) : mixM f g l k = (List.range l.length).map g := by
  unfold mixM
  rw [List.drop_of_length_le (by omega), show k = l.length by omega]
  simp
theorem set_get {α : Type} {l : List α} {k : Nat} {x : α} (hk : k < l.length) : (l.set k x)[k]? = some x := by rw [List.getElem?_set_self hk]
theorem set2 {α : Type} {m l : List α} {k : Nat} {x y : α} (h : m = l.set k y) : m = (l.set k x).set k y := by rw [List.set_set]; exact h
theorem rangeLen (n : Nat) : (List.range n).length = n := List.length_range
def g1 (q : Int) (i : Nat) : List C := [iC (q + i)]
def g3 (q : Int) (i : Nat) : List C := [iC (q + (3 * i : Nat)), iC (q + (3 * i : Nat) + 1), iC (q + (3 * i : Nat) + 1 + 1)]
def g4 (q : Int) (i : Nat) : List C := [iC (q + (4 * i : Nat)), iC (q + (4 * i : Nat) + 1), iC (q + (4 * i : Nat) + 1 + 1), iC (q + (4 * i : Nat) + 1 + 1 + 1)]
def g9 (q : Int) (i : Nat) : List C := [iC (q + (9 * i : Nat)), iC (q + (9 * i : Nat) + 1), iC (q + (9 * i : Nat) + 1 + 1), iC (q + (9 * i : Nat) + 1 + 1 + 1), iC (q + (9 * i : Nat) + 1 + 1 + 1 + 1), iC (q + (9 * i : Nat) + 1 + 1 + 1 + 1 + 1), iC (q + (9 * i : Nat) + 1 + 1 + 1 + 1 + 1 + 1), iC (q + (9 * i : Nat) + 1 + 1 + 1 + 1 + 1 + 1 + 1), iC (q + (9 * i : Nat) + 1 + 1 + 1 + 1 + 1 + 1 + 1 + 1)]
@[reducible] def mk1 (q : Int) (n : Nat) : List (List C) := (List.range n).map (g1 q)
@[reducible] def mk3 (q : Int) (n : Nat) : List (List C) := (List.range n).map (g3 q)
@[reducible] def mk4 (q : Int) (n : Nat) : List (List C) := (List.range n).map (g4 q)
@[reducible] def mk9 (q : Int) (n : Nat) : List (List C) := (List.range n).map (g9 q)
def lenS (x : Int × List Int) : Nat := 1 + x.2.length
def gR (q : Int) (K : List (List Int)) (i : Nat) : List C := [.s 1 (mk1 (q + sumN List.length (K.take i)) (K.getD i []).length)]
def gW (q : Int) (W : List (Int × List Int)) (i : Nat) : List C := [iC (q + sumN lenS (W.take i)), .s 1 (mk1 (q + sumN lenS (W.take i) + 1) (W.getD i (0, [])).2.length)]
@[reducible] def mkRows (q : Int) (K : List (List Int)) : List (List C) := (List.range K.length).map (gR q K)
@[reducible] def mkWrites (q : Int) (W : List (Int × List Int)) : List (List C) := (List.range W.length).map (gW q W)
theorem getD_len {K : List (List Int)} {k : Nat} (hk : k < K.length) : K.getD k [] = K[k] := by simp [hk]
theorem getD_lenW {K : List (Int × List Int)} {k : Nat} (hk : k < K.length) : K.getD k (0, []) = K[k] := by simp [hk]
theorem m_ints (ty : Nat) (l : List Int) (q : Int) (h : 0 ≤ q ∧ q + l.length ≤ 1099511627776) : Marks Tryz.prog 49 (false, [.s ty 1 (l.map (fun x => [iC x]))]) (false, [.s ty 1 (mk1 q l.length)]) q (q + (l.length : Nat)) := by
  refine marks_intro (N := 19) Tryz.func49 rfl rfl rfl rfl (fun w v F => ?_)
  (repeat refine sq ?_)
  refine rg ?_
  refine xs rfl rfl ?_
  refine nl ?_
  (repeat first | refine et ?_ | refine eb ?_)
  (repeat refine sq ?_)
  refine rg ?_
  refine xs rfl rfl ?_
  refine nl ?_
  (repeat first | refine et ?_ | refine eb ?_)
  (repeat refine sq ?_)
  refine ev_blk ?_
  (repeat refine sq ?_)
  refine ev_loop (fun i : Nat × Int => (⟨[(5, iV i.1), (1, iV i.2), (0, .p false [.rt 900])], [], [(900, ty, 1, mixM (fun x => [iC x]) (g1 q) l i.1)], []⟩ : St)) (fun i => i.1 ≤ l.length ∧ i.2 = q + (i.1 : Nat)) (fun i => l.length - i.1) (0, q) [] (⟨by simp, by simp⟩) ⟨by (repeat first | exact trivial | refine ⟨rfl, ?_⟩), by (repeat first | exact trivial | refine ⟨rfl, ?_⟩), ⟨⟨_, rfl, by exact mixM_zero _ _ _⟩, trivial⟩, by (repeat first | exact trivial | refine ⟨⟨_, rfl, rfl⟩, ?_⟩), rfl⟩ ?_
  intro i hp
  obtain ⟨k, z⟩ := i
  have hp : k ≤ l.length ∧ z = q + (k : Nat) := hp
  obtain ⟨p0, p1⟩ := hp
  show Ev _ _ _ _ (⟨[(5, iV k), (1, iV z), (0, .p false [.rt 900])], [], [(900, ty, 1, mixM (fun x => [iC x]) (g1 q) l k)], []⟩ : St)
  have hM : (mixM (fun x => [iC x]) (g1 q) l k).length = l.length := mixM_len p0
  (repeat refine sq ?_)
  refine rg ?_
  refine xm rfl rfl ?_
  refine xm rfl rfl ?_
  refine xo (q_len_rt ttOk rfl rfl rfl) rfl ?_
  refine xb ttOk rfl rfl ?_
  refine nl ?_
  (repeat first | refine et ?_ | refine eb ?_)
  (repeat refine sq ?_)
  refine ev_cond rfl (fun h1 => ?_) (fun h1 => ?_)
  · have d1 := of_decide_eq_true h1
    (repeat refine sq ?_)
    refine ev_skip ?_
    (repeat first | refine et ?_ | refine eb ?_)
    (repeat refine sq ?_)
    refine ev_blk ?_
    (repeat refine sq ?_)
    refine rg ?_
    refine xm rfl rfl ?_
    refine xm rfl rfl ?_
    refine xm rfl rfl ?_
    refine xo (q_ix_rt (m := k) ttOk rfl rfl rfl rfl rfl rfl (by first | (rw [hM]; omega) | (rw [List.length_set, hM]; omega) | (simp only [List.length_set, hM]; omega))) rfl ?_
    refine evl_e (e_st_pr ttOk rfl rfl rfl rfl rfl rfl rfl (mixM_at (by omega)) rfl ((mixM_set (by omega) (by rw [p1]; rfl))) rfl rfl rfl) ?_
    refine nl ?_
    (repeat first | refine et ?_ | refine eb ?_)
    (repeat refine sq ?_)
    refine rg ?_
    refine xm rfl rfl ?_
    refine xa rfl rfl rfl (by omega) rfl ?_
    refine xs rfl rfl ?_
    refine nl ?_
    (repeat first | refine et ?_ | refine eb ?_)
    (repeat refine sq ?_)
    refine rg ?_
    refine xm rfl rfl ?_
    refine xa rfl rfl rfl (by omega) rfl ?_
    refine xs rfl rfl ?_
    refine nl ?_
    (repeat first | refine et ?_ | refine eb ?_)
    (repeat first | refine et ?_ | refine eb ?_)
    refine eve_round (k + 1, _) [] ?hp ⟨by (repeat first | exact trivial | refine ⟨rfl, ?_⟩), by (repeat first | exact trivial | refine ⟨rfl, ?_⟩), ⟨⟨_, rfl, by rfl⟩, trivial⟩, by (repeat first | exact trivial | refine ⟨⟨_, rfl, rfl⟩, ?_⟩), rfl⟩
    case hp =>
      dsimp only
      exact ⟨⟨by omega, by omega⟩, by omega⟩
  · have d1 := of_decide_eq_false h1
    (repeat refine sq ?_)
    refine ev_exit ?_
    (repeat first | refine evx_then ?_ | refine evx_hit ?_ | refine evx_miss rfl ?_)
    (repeat first | refine et ?_ | refine eb ?_)
    (repeat refine sq ?_)
    refine rg ?_
    refine xm rfl rfl ?_
    refine xs rfl rfl ?_
    refine nl ?_
    (repeat first | refine et ?_ | refine eb ?_)
    (repeat refine sq ?_)
    refine ev_ret ?_
    (repeat first | refine evr_then ?_ | refine evr_blk ?_)
    refine ret_mark ttOk rfl rfl rfl ?_
    refine ⟨by rw [mixM_all p0 (by omega)], ?_⟩
    obtain rfl : k = l.length := by omega
    omega
theorem m_marks (ty : Nat) (l : List Mark) (q : Int) (h : 0 ≤ q ∧ q + 3 * l.length ≤ 1099511627776) : Marks Tryz.prog 66 (false, [.s ty 3 (l.map markC)]) (false, [.s ty 3 (mk3 q l.length)]) q (q + (3 * l.length : Nat)) := by
  refine marks_intro (N := 34) Tryz.func66 rfl rfl rfl rfl (fun w v F => ?_)
  (repeat refine sq ?_)
  refine rg ?_
  refine xs rfl rfl ?_
  refine nl ?_
  (repeat first | refine et ?_ | refine eb ?_)
  (repeat refine sq ?_)
  refine rg ?_
  refine xs rfl rfl ?_
  refine nl ?_
  (repeat first | refine et ?_ | refine eb ?_)
  (repeat refine sq ?_)
  refine ev_blk ?_
  (repeat refine sq ?_)
  refine ev_loop (fun i : Nat × Int => (⟨[(5, iV i.1), (1, iV i.2), (0, .p false [.rt 900])], [], [(900, ty, 3, mixM markC (g3 q) l i.1)], []⟩ : St)) (fun i => i.1 ≤ l.length ∧ i.2 = q + (3 * i.1 : Nat)) (fun i => l.length - i.1) (0, q) [] (⟨by simp, by simp⟩) ⟨by (repeat first | exact trivial | refine ⟨rfl, ?_⟩), by (repeat first | exact trivial | refine ⟨rfl, ?_⟩), ⟨⟨_, rfl, by exact mixM_zero _ _ _⟩, trivial⟩, by (repeat first | exact trivial | refine ⟨⟨_, rfl, rfl⟩, ?_⟩), rfl⟩ ?_
  intro i hp
  obtain ⟨k, z⟩ := i
  have hp : k ≤ l.length ∧ z = q + (3 * k : Nat) := hp
  obtain ⟨p0, p1⟩ := hp
  show Ev _ _ _ _ (⟨[(5, iV k), (1, iV z), (0, .p false [.rt 900])], [], [(900, ty, 3, mixM markC (g3 q) l k)], []⟩ : St)
  have hM : (mixM markC (g3 q) l k).length = l.length := mixM_len p0
  (repeat refine sq ?_)
  refine rg ?_
  refine xm rfl rfl ?_
  refine xm rfl rfl ?_
  refine xo (q_len_rt ttOk rfl rfl rfl) rfl ?_
  refine xb ttOk rfl rfl ?_
  refine nl ?_
  (repeat first | refine et ?_ | refine eb ?_)
  (repeat refine sq ?_)
  refine ev_cond rfl (fun h1 => ?_) (fun h1 => ?_)
  · have d1 := of_decide_eq_true h1
    (repeat refine sq ?_)
    refine ev_skip ?_
    (repeat first | refine et ?_ | refine eb ?_)
    (repeat refine sq ?_)
    refine ev_blk ?_
    (repeat refine sq ?_)
    refine rg ?_
    refine xm rfl rfl ?_
    refine xm rfl rfl ?_
    refine xm rfl rfl ?_
    refine xo (q_ix_rt (m := k) ttOk rfl rfl rfl rfl rfl rfl (by first | (rw [hM]; omega) | (rw [List.length_set, hM]; omega) | (simp only [List.length_set, hM]; omega))) rfl ?_
    refine xf ttOk rfl rfl ?_
    refine evl_e (e_st_pr ttOk rfl rfl rfl rfl rfl rfl rfl (mixM_at (by omega)) rfl rfl rfl rfl rfl) ?_
    refine nl ?_
    (repeat first | refine et ?_ | refine eb ?_)
    (repeat refine sq ?_)
    refine rg ?_
    refine xm rfl rfl ?_
    refine xa rfl rfl rfl (by omega) rfl ?_
    refine xs rfl rfl ?_
    refine nl ?_
    (repeat first | refine et ?_ | refine eb ?_)
    (repeat refine sq ?_)
    refine rg ?_
    refine xm rfl rfl ?_
    refine xm rfl rfl ?_
    refine xm rfl rfl ?_
    refine xo (q_ix_rt (m := k) ttOk rfl rfl rfl rfl rfl rfl (by first | (rw [hM]; omega) | (rw [List.length_set, hM]; omega) | (simp only [List.length_set, hM]; omega))) rfl ?_
    refine xf ttOk rfl rfl ?_
    refine evl_e (e_st_pr ttOk rfl rfl rfl rfl rfl rfl rfl (set_get (by first | (rw [hM]; omega) | (simp only [List.length_set, hM]; omega))) rfl rfl rfl rfl rfl) ?_
    refine nl ?_
    (repeat first | refine et ?_ | refine eb ?_)
    (repeat refine sq ?_)
    refine rg ?_
    refine xm rfl rfl ?_
    refine xa rfl rfl rfl (by omega) rfl ?_
    refine xs rfl rfl ?_
    refine nl ?_
    (repeat first | refine et ?_ | refine eb ?_)
    (repeat refine sq ?_)
    refine rg ?_
    refine xm rfl rfl ?_
    refine xm rfl rfl ?_
    refine xm rfl rfl ?_
    refine xo (q_ix_rt (m := k) ttOk rfl rfl rfl rfl rfl rfl (by first | (rw [hM]; omega) | (rw [List.length_set, hM]; omega) | (simp only [List.length_set, hM]; omega))) rfl ?_
    refine xf ttOk rfl rfl ?_
    refine evl_e (e_st_pr ttOk rfl rfl rfl rfl rfl rfl rfl (set_get (by first | (rw [hM]; omega) | (simp only [List.length_set, hM]; omega))) rfl ((set2 (set2 (mixM_set (by omega) (by rw [p1]; rfl))))) rfl rfl rfl) ?_
    refine nl ?_
    (repeat first | refine et ?_ | refine eb ?_)
    (repeat refine sq ?_)
    refine rg ?_
    refine xm rfl rfl ?_
    refine xa rfl rfl rfl (by omega) rfl ?_
    refine xs rfl rfl ?_
    refine nl ?_
    (repeat first | refine et ?_ | refine eb ?_)
    (repeat refine sq ?_)
    refine rg ?_
    refine xm rfl rfl ?_
    refine xa rfl rfl rfl (by omega) rfl ?_
    refine xs rfl rfl ?_
    refine nl ?_
    (repeat first | refine et ?_ | refine eb ?_)
    (repeat first | refine et ?_ | refine eb ?_)
    refine eve_round (k + 1, _) [] ?hp ⟨by (repeat first | exact trivial | refine ⟨rfl, ?_⟩), by (repeat first | exact trivial | refine ⟨rfl, ?_⟩), ⟨⟨_, rfl, by rfl⟩, trivial⟩, by (repeat first | exact trivial | refine ⟨⟨_, rfl, rfl⟩, ?_⟩), rfl⟩
    case hp =>
      dsimp only
      exact ⟨⟨by omega, by omega⟩, by omega⟩
  · have d1 := of_decide_eq_false h1
    (repeat refine sq ?_)
    refine ev_exit ?_
    (repeat first | refine evx_then ?_ | refine evx_hit ?_ | refine evx_miss rfl ?_)
    (repeat first | refine et ?_ | refine eb ?_)
    (repeat refine sq ?_)
    refine rg ?_
    refine xm rfl rfl ?_
    refine xs rfl rfl ?_
    refine nl ?_
    (repeat first | refine et ?_ | refine eb ?_)
    (repeat refine sq ?_)
    refine ev_ret ?_
    (repeat first | refine evr_then ?_ | refine evr_blk ?_)
    refine ret_mark ttOk rfl rfl rfl ?_
    refine ⟨by rw [mixM_all p0 (by omega)], ?_⟩
    obtain rfl : k = l.length := by omega
    omega
theorem m_acks (ty : Nat) (l : List Ack) (q : Int) (h : 0 ≤ q ∧ q + 4 * l.length ≤ 1099511627776) : Marks Tryz.prog 57 (false, [.s ty 4 (l.map ackC)]) (false, [.s ty 4 (mk4 q l.length)]) q (q + (4 * l.length : Nat)) := by
  refine marks_intro (N := 41) Tryz.func57 rfl rfl rfl rfl (fun w v F => ?_)
  (repeat refine sq ?_)
  refine rg ?_
  refine xs rfl rfl ?_
  refine nl ?_
  (repeat first | refine et ?_ | refine eb ?_)
  (repeat refine sq ?_)
  refine rg ?_
  refine xs rfl rfl ?_
  refine nl ?_
  (repeat first | refine et ?_ | refine eb ?_)
  (repeat refine sq ?_)
  refine ev_blk ?_
  (repeat refine sq ?_)
  refine ev_loop (fun i : Nat × Int => (⟨[(5, iV i.1), (1, iV i.2), (0, .p false [.rt 900])], [], [(900, ty, 4, mixM ackC (g4 q) l i.1)], []⟩ : St)) (fun i => i.1 ≤ l.length ∧ i.2 = q + (4 * i.1 : Nat)) (fun i => l.length - i.1) (0, q) [] (⟨by simp, by simp⟩) ⟨by (repeat first | exact trivial | refine ⟨rfl, ?_⟩), by (repeat first | exact trivial | refine ⟨rfl, ?_⟩), ⟨⟨_, rfl, by exact mixM_zero _ _ _⟩, trivial⟩, by (repeat first | exact trivial | refine ⟨⟨_, rfl, rfl⟩, ?_⟩), rfl⟩ ?_
  intro i hp
  obtain ⟨k, z⟩ := i
  have hp : k ≤ l.length ∧ z = q + (4 * k : Nat) := hp
  obtain ⟨p0, p1⟩ := hp
  show Ev _ _ _ _ (⟨[(5, iV k), (1, iV z), (0, .p false [.rt 900])], [], [(900, ty, 4, mixM ackC (g4 q) l k)], []⟩ : St)
  have hM : (mixM ackC (g4 q) l k).length = l.length := mixM_len p0
  (repeat refine sq ?_)
  refine rg ?_
  refine xm rfl rfl ?_
  refine xm rfl rfl ?_
  refine xo (q_len_rt ttOk rfl rfl rfl) rfl ?_
  refine xb ttOk rfl rfl ?_
  refine nl ?_
  (repeat first | refine et ?_ | refine eb ?_)
  (repeat refine sq ?_)
  refine ev_cond rfl (fun h1 => ?_) (fun h1 => ?_)
  · have d1 := of_decide_eq_true h1
    (repeat refine sq ?_)
    refine ev_skip ?_
    (repeat first | refine et ?_ | refine eb ?_)
    (repeat refine sq ?_)
    refine ev_blk ?_
    (repeat refine sq ?_)
    refine rg ?_
    refine xm rfl rfl ?_
    refine xm rfl rfl ?_
    refine xm rfl rfl ?_
    refine xo (q_ix_rt (m := k) ttOk rfl rfl rfl rfl rfl rfl (by first | (rw [hM]; omega) | (rw [List.length_set, hM]; omega) | (simp only [List.length_set, hM]; omega))) rfl ?_
    refine xf ttOk rfl rfl ?_
    refine evl_e (e_st_pr ttOk rfl rfl rfl rfl rfl rfl rfl (mixM_at (by omega)) rfl rfl rfl rfl rfl) ?_
    refine nl ?_
    (repeat first | refine et ?_ | refine eb ?_)
    (repeat refine sq ?_)
    refine rg ?_
    refine xm rfl rfl ?_
    refine xa rfl rfl rfl (by omega) rfl ?_
    refine xs rfl rfl ?_
    refine nl ?_
    (repeat first | refine et ?_ | refine eb ?_)
    (repeat refine sq ?_)
    refine rg ?_
    refine xm rfl rfl ?_
    refine xm rfl rfl ?_
    refine xm rfl rfl ?_
    refine xo (q_ix_rt (m := k) ttOk rfl rfl rfl rfl rfl rfl (by first | (rw [hM]; omega) | (rw [List.length_set, hM]; omega) | (simp only [List.length_set, hM]; omega))) rfl ?_
    refine xf ttOk rfl rfl ?_
    refine evl_e (e_st_pr ttOk rfl rfl rfl rfl rfl rfl rfl (set_get (by first | (rw [hM]; omega) | (simp only [List.length_set, hM]; omega))) rfl rfl rfl rfl rfl) ?_
    refine nl ?_
    (repeat first | refine et ?_ | refine eb ?_)
    (repeat refine sq ?_)
    refine rg ?_
    refine xm rfl rfl ?_
    refine xa rfl rfl rfl (by omega) rfl ?_
    refine xs rfl rfl ?_
    refine nl ?_
    (repeat first | refine et ?_ | refine eb ?_)
    (repeat refine sq ?_)
    refine rg ?_
    refine xm rfl rfl ?_
    refine xm rfl rfl ?_
    refine xm rfl rfl ?_
    refine xo (q_ix_rt (m := k) ttOk rfl rfl rfl rfl rfl rfl (by first | (rw [hM]; omega) | (rw [List.length_set, hM]; omega) | (simp only [List.length_set, hM]; omega))) rfl ?_
    refine xf ttOk rfl rfl ?_
    refine evl_e (e_st_pr ttOk rfl rfl rfl rfl rfl rfl rfl (set_get (by first | (rw [hM]; omega) | (simp only [List.length_set, hM]; omega))) rfl rfl rfl rfl rfl) ?_
    refine nl ?_
    (repeat first | refine et ?_ | refine eb ?_)
    (repeat refine sq ?_)
    refine rg ?_
    refine xm rfl rfl ?_
    refine xa rfl rfl rfl (by omega) rfl ?_
    refine xs rfl rfl ?_
    refine nl ?_
    (repeat first | refine et ?_ | refine eb ?_)
    (repeat refine sq ?_)
    refine rg ?_
    refine xm rfl rfl ?_
    refine xm rfl rfl ?_
    refine xm rfl rfl ?_
    refine xo (q_ix_rt (m := k) ttOk rfl rfl rfl rfl rfl rfl (by first | (rw [hM]; omega) | (rw [List.length_set, hM]; omega) | (simp only [List.length_set, hM]; omega))) rfl ?_
    refine xf ttOk rfl rfl ?_
    refine evl_e (e_st_pr ttOk rfl rfl rfl rfl rfl rfl rfl (set_get (by first | (rw [hM]; omega) | (simp only [List.length_set, hM]; omega))) rfl ((set2 (set2 (set2 (mixM_set (by omega) (by rw [p1]; rfl)))))) rfl rfl rfl) ?_
    refine nl ?_
    (repeat first | refine et ?_ | refine eb ?_)
    (repeat refine sq ?_)
    refine rg ?_
    refine xm rfl rfl ?_
    refine xa rfl rfl rfl (by omega) rfl ?_
    refine xs rfl rfl ?_
    refine nl ?_
    (repeat first | refine et ?_ | refine eb ?_)
    (repeat refine sq ?_)
    refine rg ?_
    refine xm rfl rfl ?_
    refine xa rfl rfl rfl (by omega) rfl ?_
    refine xs rfl rfl ?_
    refine nl ?_
    (repeat first | refine et ?_ | refine eb ?_)
    (repeat first | refine et ?_ | refine eb ?_)
    refine eve_round (k + 1, _) [] ?hp ⟨by (repeat first | exact trivial | refine ⟨rfl, ?_⟩), by (repeat first | exact trivial | refine ⟨rfl, ?_⟩), ⟨⟨_, rfl, by rfl⟩, trivial⟩, by (repeat first | exact trivial | refine ⟨⟨_, rfl, rfl⟩, ?_⟩), rfl⟩
    case hp =>
      dsimp only
      exact ⟨⟨by omega, by omega⟩, by omega⟩
  · have d1 := of_decide_eq_false h1
    (repeat refine sq ?_)
    refine ev_exit ?_
    (repeat first | refine evx_then ?_ | refine evx_hit ?_ | refine evx_miss rfl ?_)
    (repeat first | refine et ?_ | refine eb ?_)
    (repeat refine sq ?_)
    refine rg ?_
    refine xm rfl rfl ?_
    refine xs rfl rfl ?_
    refine nl ?_
    (repeat first | refine et ?_ | refine eb ?_)
    (repeat refine sq ?_)
    refine ev_ret ?_
    (repeat first | refine evr_then ?_ | refine evr_blk ?_)
    refine ret_mark ttOk rfl rfl rfl ?_
    refine ⟨by rw [mixM_all p0 (by omega)], ?_⟩
    obtain rfl : k = l.length := by omega
    omega
theorem m_entries (ty : Nat) (l : List Entry) (q : Int) (h : 0 ≤ q ∧ q + 9 * l.length ≤ 1099511627776) : Marks Tryz.prog 38 (false, [.s ty 9 (l.map entryC)]) (false, [.s ty 9 (mk9 q l.length)]) q (q + (9 * l.length : Nat)) := by
  refine marks_intro (N := 81) Tryz.func38 rfl rfl rfl rfl (fun w v F => ?_)
  (repeat refine sq ?_)
  refine rg ?_
  refine xs rfl rfl ?_
  refine nl ?_
  (repeat first | refine et ?_ | refine eb ?_)
  (repeat refine sq ?_)
  refine rg ?_
  refine xs rfl rfl ?_
  refine nl ?_
  (repeat first | refine et ?_ | refine eb ?_)
  (repeat refine sq ?_)
  refine ev_blk ?_
  (repeat refine sq ?_)
  refine ev_loop (fun i : Nat × Int => (⟨[(5, iV i.1), (1, iV i.2), (0, .p false [.rt 900])], [], [(900, ty, 9, mixM entryC (g9 q) l i.1)], []⟩ : St)) (fun i => i.1 ≤ l.length ∧ i.2 = q + (9 * i.1 : Nat)) (fun i => l.length - i.1) (0, q) [] (⟨by simp, by simp⟩) ⟨by (repeat first | exact trivial | refine ⟨rfl, ?_⟩), by (repeat first | exact trivial | refine ⟨rfl, ?_⟩), ⟨⟨_, rfl, by exact mixM_zero _ _ _⟩, trivial⟩, by (repeat first | exact trivial | refine ⟨⟨_, rfl, rfl⟩, ?_⟩), rfl⟩ ?_
  intro i hp
  obtain ⟨k, z⟩ := i
  have hp : k ≤ l.length ∧ z = q + (9 * k : Nat) := hp
  obtain ⟨p0, p1⟩ := hp
  show Ev _ _ _ _ (⟨[(5, iV k), (1, iV z), (0, .p false [.rt 900])], [], [(900, ty, 9, mixM entryC (g9 q) l k)], []⟩ : St)
  have hM : (mixM entryC (g9 q) l k).length = l.length := mixM_len p0
  (repeat refine sq ?_)
  refine rg ?_
  refine xm rfl rfl ?_
  refine xm rfl rfl ?_
  refine xo (q_len_rt ttOk rfl rfl rfl) rfl ?_
  refine xb ttOk rfl rfl ?_
  refine nl ?_
  (repeat first | refine et ?_ | refine eb ?_)
  (repeat refine sq ?_)
  refine ev_cond rfl (fun h1 => ?_) (fun h1 => ?_)
  · have d1 := of_decide_eq_true h1
    (repeat refine sq ?_)
    refine ev_skip ?_
    (repeat first | refine et ?_ | refine eb ?_)
    (repeat refine sq ?_)
    refine ev_blk ?_
    (repeat refine sq ?_)
    refine rg ?_
    refine xm rfl rfl ?_
    refine xm rfl rfl ?_
    refine xm rfl rfl ?_
    refine xo (q_ix_rt (m := k) ttOk rfl rfl rfl rfl rfl rfl (by first | (rw [hM]; omega) | (rw [List.length_set, hM]; omega) | (simp only [List.length_set, hM]; omega))) rfl ?_
    refine xf ttOk rfl rfl ?_
    refine evl_e (e_st_pr ttOk rfl rfl rfl rfl rfl rfl rfl (mixM_at (by omega)) rfl rfl rfl rfl rfl) ?_
    refine nl ?_
    (repeat first | refine et ?_ | refine eb ?_)
    (repeat refine sq ?_)
    refine rg ?_
    refine xm rfl rfl ?_
    refine xa rfl rfl rfl (by omega) rfl ?_
    refine xs rfl rfl ?_
    refine nl ?_
    (repeat first | refine et ?_ | refine eb ?_)
    (repeat refine sq ?_)
    refine rg ?_
    refine xm rfl rfl ?_
    refine xm rfl rfl ?_
    refine xm rfl rfl ?_
    refine xo (q_ix_rt (m := k) ttOk rfl rfl rfl rfl rfl rfl (by first | (rw [hM]; omega) | (rw [List.length_set, hM]; omega) | (simp only [List.length_set, hM]; omega))) rfl ?_
    refine xf ttOk rfl rfl ?_
    refine evl_e (e_st_pr ttOk rfl rfl rfl rfl rfl rfl rfl (set_get (by first | (rw [hM]; omega) | (simp only [List.length_set, hM]; omega))) rfl rfl rfl rfl rfl) ?_
    refine nl ?_
    (repeat first | refine et ?_ | refine eb ?_)
    (repeat refine sq ?_)
    refine rg ?_
    refine xm rfl rfl ?_
    refine xa rfl rfl rfl (by omega) rfl ?_
    refine xs rfl rfl ?_
    refine nl ?_
    (repeat first | refine et ?_ | refine eb ?_)
    (repeat refine sq ?_)
    refine rg ?_
    refine xm rfl rfl ?_
    refine xm rfl rfl ?_
    refine xm rfl rfl ?_
    refine xo (q_ix_rt (m := k) ttOk rfl rfl rfl rfl rfl rfl (by first | (rw [hM]; omega) | (rw [List.length_set, hM]; omega) | (simp only [List.length_set, hM]; omega))) rfl ?_
    refine xf ttOk rfl rfl ?_
    refine evl_e (e_st_pr ttOk rfl rfl rfl rfl rfl rfl rfl (set_get (by first | (rw [hM]; omega) | (simp only [List.length_set, hM]; omega))) rfl rfl rfl rfl rfl) ?_
    refine nl ?_
    (repeat first | refine et ?_ | refine eb ?_)
    (repeat refine sq ?_)
    refine rg ?_
    refine xm rfl rfl ?_
    refine xa rfl rfl rfl (by omega) rfl ?_
    refine xs rfl rfl ?_
    refine nl ?_
    (repeat first | refine et ?_ | refine eb ?_)
    (repeat refine sq ?_)
    refine rg ?_
    refine xm rfl rfl ?_
    refine xm rfl rfl ?_
    refine xm rfl rfl ?_
    refine xo (q_ix_rt (m := k) ttOk rfl rfl rfl rfl rfl rfl (by first | (rw [hM]; omega) | (rw [List.length_set, hM]; omega) | (simp only [List.length_set, hM]; omega))) rfl ?_
    refine xf ttOk rfl rfl ?_
    refine evl_e (e_st_pr ttOk rfl rfl rfl rfl rfl rfl rfl (set_get (by first | (rw [hM]; omega) | (simp only [List.length_set, hM]; omega))) rfl rfl rfl rfl rfl) ?_
    refine nl ?_
    (repeat first | refine et ?_ | refine eb ?_)
    (repeat refine sq ?_)
    refine rg ?_
    refine xm rfl rfl ?_
    refine xa rfl rfl rfl (by omega) rfl ?_
    refine xs rfl rfl ?_
    refine nl ?_
    (repeat first | refine et ?_ | refine eb ?_)
    (repeat refine sq ?_)
    refine rg ?_
    refine xm rfl rfl ?_
    refine xm rfl rfl ?_
    refine xm rfl rfl ?_
    refine xo (q_ix_rt (m := k) ttOk rfl rfl rfl rfl rfl rfl (by first | (rw [hM]; omega) | (rw [List.length_set, hM]; omega) | (simp only [List.length_set, hM]; omega))) rfl ?_
    refine xf ttOk rfl rfl ?_
    refine xf ttOk rfl rfl ?_
    refine evl_e (e_st_pr ttOk rfl rfl rfl rfl rfl rfl rfl (set_get (by first | (rw [hM]; omega) | (simp only [List.length_set, hM]; omega))) rfl rfl rfl rfl rfl) ?_
    refine nl ?_
    (repeat first | refine et ?_ | refine eb ?_)
    (repeat refine sq ?_)
    refine rg ?_
    refine xm rfl rfl ?_
    refine xa rfl rfl rfl (by omega) rfl ?_
    refine xs rfl rfl ?_
    refine nl ?_
    (repeat first | refine et ?_ | refine eb ?_)
    (repeat refine sq ?_)
    refine rg ?_
    refine xm rfl rfl ?_
    refine xm rfl rfl ?_
    refine xm rfl rfl ?_
    refine xo (q_ix_rt (m := k) ttOk rfl rfl rfl rfl rfl rfl (by first | (rw [hM]; omega) | (rw [List.length_set, hM]; omega) | (simp only [List.length_set, hM]; omega))) rfl ?_
    refine xf ttOk rfl rfl ?_
    refine xf ttOk rfl rfl ?_
    refine evl_e (e_st_pr ttOk rfl rfl rfl rfl rfl rfl rfl (set_get (by first | (rw [hM]; omega) | (simp only [List.length_set, hM]; omega))) rfl rfl rfl rfl rfl) ?_
    refine nl ?_
    (repeat first | refine et ?_ | refine eb ?_)
    (repeat refine sq ?_)
    refine rg ?_
    refine xm rfl rfl ?_
    refine xa rfl rfl rfl (by omega) rfl ?_
    refine xs rfl rfl ?_
    refine nl ?_
    (repeat first | refine et ?_ | refine eb ?_)
    (repeat refine sq ?_)
    refine rg ?_
    refine xm rfl rfl ?_
    refine xm rfl rfl ?_
    refine xm rfl rfl ?_
    refine xo (q_ix_rt (m := k) ttOk rfl rfl rfl rfl rfl rfl (by first | (rw [hM]; omega) | (rw [List.length_set, hM]; omega) | (simp only [List.length_set, hM]; omega))) rfl ?_
    refine xf ttOk rfl rfl ?_
    refine xf ttOk rfl rfl ?_
    refine evl_e (e_st_pr ttOk rfl rfl rfl rfl rfl rfl rfl (set_get (by first | (rw [hM]; omega) | (simp only [List.length_set, hM]; omega))) rfl rfl rfl rfl rfl) ?_
    refine nl ?_
    (repeat first | refine et ?_ | refine eb ?_)
    (repeat refine sq ?_)
    refine rg ?_
    refine xm rfl rfl ?_
    refine xa rfl rfl rfl (by omega) rfl ?_
    refine xs rfl rfl ?_
    refine nl ?_
    (repeat first | refine et ?_ | refine eb ?_)
    (repeat refine sq ?_)
    refine rg ?_
    refine xm rfl rfl ?_
    refine xm rfl rfl ?_
    refine xm rfl rfl ?_
    refine xo (q_ix_rt (m := k) ttOk rfl rfl rfl rfl rfl rfl (by first | (rw [hM]; omega) | (rw [List.length_set, hM]; omega) | (simp only [List.length_set, hM]; omega))) rfl ?_
    refine xf ttOk rfl rfl ?_
    refine xf ttOk rfl rfl ?_
    refine evl_e (e_st_pr ttOk rfl rfl rfl rfl rfl rfl rfl (set_get (by first | (rw [hM]; omega) | (simp only [List.length_set, hM]; omega))) rfl rfl rfl rfl rfl) ?_
    refine nl ?_
    (repeat first | refine et ?_ | refine eb ?_)
    (repeat refine sq ?_)
    refine rg ?_
    refine xm rfl rfl ?_
    refine xa rfl rfl rfl (by omega) rfl ?_
    refine xs rfl rfl ?_
    refine nl ?_
    (repeat first | refine et ?_ | refine eb ?_)
    (repeat refine sq ?_)
    refine rg ?_
    refine xm rfl rfl ?_
    refine xm rfl rfl ?_
    refine xm rfl rfl ?_
    refine xo (q_ix_rt (m := k) ttOk rfl rfl rfl rfl rfl rfl (by first | (rw [hM]; omega) | (rw [List.length_set, hM]; omega) | (simp only [List.length_set, hM]; omega))) rfl ?_
    refine xf ttOk rfl rfl ?_
    refine xf ttOk rfl rfl ?_
    refine evl_e (e_st_pr ttOk rfl rfl rfl rfl rfl rfl rfl (set_get (by first | (rw [hM]; omega) | (simp only [List.length_set, hM]; omega))) rfl ((set2 (set2 (set2 (set2 (set2 (set2 (set2 (set2 (mixM_set (by omega) (by rw [p1]; rfl))))))))))) rfl rfl rfl) ?_
    refine nl ?_
    (repeat first | refine et ?_ | refine eb ?_)
    (repeat refine sq ?_)
    refine rg ?_
    refine xm rfl rfl ?_
    refine xa rfl rfl rfl (by omega) rfl ?_
    refine xs rfl rfl ?_
    refine nl ?_
    (repeat first | refine et ?_ | refine eb ?_)
    (repeat refine sq ?_)
    refine rg ?_
    refine xm rfl rfl ?_
    refine xa rfl rfl rfl (by omega) rfl ?_
    refine xs rfl rfl ?_
    refine nl ?_
    (repeat first | refine et ?_ | refine eb ?_)
    (repeat first | refine et ?_ | refine eb ?_)
    refine eve_round (k + 1, _) [] ?hp ⟨by (repeat first | exact trivial | refine ⟨rfl, ?_⟩), by (repeat first | exact trivial | refine ⟨rfl, ?_⟩), ⟨⟨_, rfl, by rfl⟩, trivial⟩, by (repeat first | exact trivial | refine ⟨⟨_, rfl, rfl⟩, ?_⟩), rfl⟩
    case hp =>
      dsimp only
      exact ⟨⟨by omega, by omega⟩, by omega⟩
  · have d1 := of_decide_eq_false h1
    (repeat refine sq ?_)
    refine ev_exit ?_
    (repeat first | refine evx_then ?_ | refine evx_hit ?_ | refine evx_miss rfl ?_)
    (repeat first | refine et ?_ | refine eb ?_)
    (repeat refine sq ?_)
    refine rg ?_
    refine xm rfl rfl ?_
    refine xs rfl rfl ?_
    refine nl ?_
    (repeat first | refine et ?_ | refine eb ?_)
    (repeat refine sq ?_)
    refine ev_ret ?_
    (repeat first | refine evr_then ?_ | refine evr_blk ?_)
    refine ret_mark ttOk rfl rfl rfl ?_
    refine ⟨by rw [mixM_all p0 (by omega)], ?_⟩
    obtain rfl : k = l.length := by omega
    omega

end Go.Proofs.YtpbhcdgdabfhfaaGreat
