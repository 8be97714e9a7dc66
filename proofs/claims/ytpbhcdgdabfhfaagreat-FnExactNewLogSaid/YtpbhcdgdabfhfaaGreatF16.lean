/- Walks of functions of the program, printed by a program of the prover. -/
import Derived.Test.YtpbhcdgdabfhfaaGreatF15
namespace Go.Proofs.YtpbhcdgdabfhfaaGreat
open Go.ChangeShapes Go.WideShapes Go.ChangeAt Go.RowKit
set_option linter.unusedVariables false
set_option linter.unusedSimpArgs false
set_option maxHeartbeats 1000000
set_option maxRecDepth 100000
attribute [local irreducible] EvL Ev EvE Quiet Eff Pure RDk RDb RDo
def mkN (d : Disk) : Nat := sumN List.length d.kept + sumN lenS d.wait
def smD (d : Disk) : Prop := d.kept.length ≤ 1048576 ∧ d.wait.length ≤ 1048576 ∧ mkN d ≤ 4294967296
def smT (t : Two) : Prop := smD t.a ∧ smD t.b
theorem rng_at {n k : Nat} (hk : k < (List.range n).length) : (List.range n)[k] = k := List.getElem_range hk
theorem m_rows (ty : Nat) (K : List (List Int)) (q : Int) (h : 0 ≤ q ∧ q + (sumN List.length K : Nat) ≤ 1099511627776) (hl : K.length ≤ 1048576) : Marks Tryz.prog 177 (false, [.s ty 1 (K.map fun r => [ints r])]) (false, [.s ty 1 (mkRows q K)]) q (q + (sumN List.length K : Nat)) := by
  refine marks_intro (N := 19) Tryz.func177 rfl rfl rfl rfl (fun w v F => ?_)
  (repeat refine sq ?_)
  refine rg ?_
  refine xs rfl rfl ?_
  refine nl ?_
  (repeat first | refine et ?_ | refine eb ?_)
  (repeat refine sq ?_)
  refine rg ?_
  refine xs rfl rfl ?_
  refine nl ?_
  (repeat first | refine et ?_ | refine eb ?_)
  (repeat refine sq ?_)
  refine ev_blk ?_
  (repeat refine sq ?_)
  refine ev_loop (fun i : Nat × Int => (⟨[(5, iV i.1), (1, iV i.2), (0, .p false [.rt 900])], [], [(900, ty, 1, mixM (fun r => [ints r]) (gR q K) K i.1)], []⟩ : St)) (fun i => i.1 ≤ K.length ∧ i.2 = q + (sumN List.length (K.take i.1) : Nat)) (fun i => K.length - i.1) (0, q) [] (⟨by simp, by simp [sumN]⟩) ⟨by (repeat first | exact trivial | refine ⟨rfl, ?_⟩), by (repeat first | exact trivial | refine ⟨rfl, ?_⟩), ⟨⟨_, rfl, by exact mixM_zero _ _ _⟩, trivial⟩, by (repeat first | exact trivial | refine ⟨⟨_, rfl, rfl⟩, ?_⟩), rfl⟩ ?_
  intro i hp
  obtain ⟨k, z⟩ := i
  have hp : k ≤ K.length ∧ z = q + (sumN List.length (K.take k) : Nat) := hp
  obtain ⟨p0, p1⟩ := hp
  show Ev _ _ _ _ (⟨[(5, iV k), (1, iV z), (0, .p false [.rt 900])], [], [(900, ty, 1, mixM (fun r => [ints r]) (gR q K) K k)], []⟩ : St)
  have hM : (mixM (fun r => [ints r]) (gR q K) K k).length = K.length := mixM_len p0
  (repeat refine sq ?_)
  refine rg ?_
  refine xm rfl rfl ?_
  refine xm rfl rfl ?_
  refine xo (q_len_rt ttOk rfl rfl rfl) rfl ?_
  refine xb ttOk rfl rfl ?_
  refine nl ?_
  (repeat first | refine et ?_ | refine eb ?_)
  (repeat refine sq ?_)
  refine ev_cond rfl (fun h1 => ?_) (fun h1 => ?_)
  · have d1 := of_decide_eq_true h1
    (repeat refine sq ?_)
    refine ev_skip ?_
    (repeat first | refine et ?_ | refine eb ?_)
    (repeat refine sq ?_)
    refine ev_blk ?_
    (repeat refine sq ?_)
    have s1 := sumN_next (f := List.length) (l := K) (k := k) (by omega)
    have s2 := sumN_le List.length K (k + 1)
    refine rg ?_
    refine xm rfl rfl ?_
    refine xm rfl rfl ?_
    refine xo (q_ix_rt (m := k) ttOk rfl rfl rfl rfl rfl rfl (by first | (rw [hM]; omega) | (rw [List.length_set, hM]; omega))) rfl ?_
    refine xo (q_load_pr ttOk rfl rfl rfl rfl (mixM_at (by omega)) rfl rfl) rfl ?_
    refine xm rfl rfl ?_
    refine evl_marks (cf rfl) rfl rfl rfl rfl (mixM_at (by omega)) rfl (fun ty' => m_ints ty' (K[k]'(by omega)) z (by omega)) (mixM_set (by omega) (by unfold gR; rw [p1, getD_len (by omega)]; rfl)) rfl rfl rfl ?_
    refine xs rfl rfl ?_
    refine nl ?_
    (repeat first | refine et ?_ | refine eb ?_)
    (repeat refine sq ?_)
    refine rg ?_
    refine xm rfl rfl ?_
    refine xa rfl rfl rfl (by omega) rfl ?_
    refine xs rfl rfl ?_
    refine nl ?_
    (repeat first | refine et ?_ | refine eb ?_)
    (repeat first | refine et ?_ | refine eb ?_)
    refine eve_round (k + 1, z + (K[k]'(by omega)).length) [] ?hp ⟨by (repeat first | exact trivial | refine ⟨rfl, ?_⟩), by (repeat first | exact trivial | refine ⟨rfl, ?_⟩), ⟨⟨_, rfl, by rfl⟩, trivial⟩, by (repeat first | exact trivial | refine ⟨⟨_, rfl, rfl⟩, ?_⟩), rfl⟩
    case hp =>
      dsimp only
      exact ⟨⟨by omega, by omega⟩, by omega⟩
  · have d1 := of_decide_eq_false h1
    (repeat refine sq ?_)
    refine ev_exit ?_
    (repeat first | refine evx_then ?_ | refine evx_hit ?_ | refine evx_miss rfl ?_)
    (repeat first | refine et ?_ | refine eb ?_)
    (repeat refine sq ?_)
    have s3 := sumN_all (f := List.length) (l := K) (k := k) (by omega)
    refine rg ?_
    refine xm rfl rfl ?_
    refine xs rfl rfl ?_
    refine nl ?_
    (repeat first | refine et ?_ | refine eb ?_)
    (repeat refine sq ?_)
    refine ev_ret ?_
    (repeat first | refine evr_then ?_ | refine evr_blk ?_)
    refine ret_mark ttOk rfl rfl rfl ?_
    refine ⟨by rw [mixM_all p0 (by omega)], ?_⟩
    omega
theorem m_writes (ty : Nat) (W : List (Int × List Int)) (q : Int) (h : 0 ≤ q ∧ q + (sumN lenS W : Nat) ≤ 1099511627776) (hl : W.length ≤ 1048576) : Marks Tryz.prog 178 (false, [.s ty 2 (W.map fun x => [iC x.1, ints x.2])]) (false, [.s ty 2 (mkWrites q W)]) q (q + (sumN lenS W : Nat)) := by
  refine marks_intro (N := 27) Tryz.func178 rfl rfl rfl rfl (fun w v F => ?_)
  (repeat refine sq ?_)
  refine rg ?_
  refine xs rfl rfl ?_
  refine nl ?_
  (repeat first | refine et ?_ | refine eb ?_)
  (repeat refine sq ?_)
  refine rg ?_
  refine xs rfl rfl ?_
  refine nl ?_
  (repeat first | refine et ?_ | refine eb ?_)
  (repeat refine sq ?_)
  refine ev_blk ?_
  (repeat refine sq ?_)
  refine ev_loop (fun i : Nat × Int => (⟨[(5, iV i.1), (1, iV i.2), (0, .p false [.rt 900])], [], [(900, ty, 2, mixM (fun x => [iC x.1, ints x.2]) (gW q W) W i.1)], []⟩ : St)) (fun i => i.1 ≤ W.length ∧ i.2 = q + (sumN lenS (W.take i.1) : Nat)) (fun i => W.length - i.1) (0, q) [] (⟨by simp, by simp [sumN]⟩) ⟨by (repeat first | exact trivial | refine ⟨rfl, ?_⟩), by (repeat first | exact trivial | refine ⟨rfl, ?_⟩), ⟨⟨_, rfl, by exact mixM_zero _ _ _⟩, trivial⟩, by (repeat first | exact trivial | refine ⟨⟨_, rfl, rfl⟩, ?_⟩), rfl⟩ ?_
  intro i hp
  obtain ⟨k, z⟩ := i
  have hp : k ≤ W.length ∧ z = q + (sumN lenS (W.take k) : Nat) := hp
  obtain ⟨p0, p1⟩ := hp
  show Ev _ _ _ _ (⟨[(5, iV k), (1, iV z), (0, .p false [.rt 900])], [], [(900, ty, 2, mixM (fun x => [iC x.1, ints x.2]) (gW q W) W k)], []⟩ : St)
  have hM : (mixM (fun x => [iC x.1, ints x.2]) (gW q W) W k).length = W.length := mixM_len p0
  (repeat refine sq ?_)
  refine rg ?_
  refine xm rfl rfl ?_
  refine xm rfl rfl ?_
  refine xo (q_len_rt ttOk rfl rfl rfl) rfl ?_
  refine xb ttOk rfl rfl ?_
  refine nl ?_
  (repeat first | refine et ?_ | refine eb ?_)
  (repeat refine sq ?_)
  refine ev_cond rfl (fun h1 => ?_) (fun h1 => ?_)
  · have d1 := of_decide_eq_true h1
    (repeat refine sq ?_)
    refine ev_skip ?_
    (repeat first | refine et ?_ | refine eb ?_)
    (repeat refine sq ?_)
    refine ev_blk ?_
    (repeat refine sq ?_)
    have s1 := sumN_next (f := lenS) (l := W) (k := k) (by omega)
    have s2 := sumN_le lenS W (k + 1)
    have s5 : lenS (W[k]'(by omega)) = 1 + (W[k]'(by omega)).2.length := rfl
    refine rg ?_
    refine xm rfl rfl ?_
    refine xm rfl rfl ?_
    refine xm rfl rfl ?_
    refine xo (q_ix_rt (m := k) ttOk rfl rfl rfl rfl rfl rfl (by first | (rw [hM]; omega) | (rw [List.length_set, hM]; omega))) rfl ?_
    refine xf ttOk rfl rfl ?_
    refine evl_e (e_st_pr ttOk rfl rfl rfl rfl rfl rfl rfl (mixM_at (by omega)) rfl rfl rfl rfl rfl) ?_
    refine nl ?_
    (repeat first | refine et ?_ | refine eb ?_)
    (repeat refine sq ?_)
    refine rg ?_
    refine xm rfl rfl ?_
    refine xa rfl rfl rfl (by omega) rfl ?_
    refine xs rfl rfl ?_
    refine nl ?_
    (repeat first | refine et ?_ | refine eb ?_)
    (repeat refine sq ?_)
    refine rg ?_
    refine xm rfl rfl ?_
    refine xm rfl rfl ?_
    refine xo (q_ix_rt (m := k) ttOk rfl rfl rfl rfl rfl rfl (by first | (rw [hM]; omega) | (rw [List.length_set, hM]; omega))) rfl ?_
    refine xf ttOk rfl rfl ?_
    refine xo (q_load_pr ttOk rfl rfl rfl rfl (set_get (by rw [hM]; omega)) rfl rfl) rfl ?_
    refine xm rfl rfl ?_
    refine evl_marks (cf rfl) rfl rfl rfl rfl (set_get (by rw [hM]; omega)) rfl (fun ty' => m_ints ty' (W[k]'(by omega)).2 (z + 1) (by omega)) (set2 (mixM_set (by omega) (by unfold gW; rw [p1, getD_lenW (by omega)]; rfl))) rfl rfl rfl ?_
    refine xs rfl rfl ?_
    refine nl ?_
    (repeat first | refine et ?_ | refine eb ?_)
    (repeat refine sq ?_)
    refine rg ?_
    refine xm rfl rfl ?_
    refine xa rfl rfl rfl (by omega) rfl ?_
    refine xs rfl rfl ?_
    refine nl ?_
    (repeat first | refine et ?_ | refine eb ?_)
    (repeat first | refine et ?_ | refine eb ?_)
    refine eve_round (k + 1, z + 1 + (W[k]'(by omega)).2.length) [] ?hp ⟨by (repeat first | exact trivial | refine ⟨rfl, ?_⟩), by (repeat first | exact trivial | refine ⟨rfl, ?_⟩), ⟨⟨_, rfl, by rfl⟩, trivial⟩, by (repeat first | exact trivial | refine ⟨⟨_, rfl, rfl⟩, ?_⟩), rfl⟩
    case hp =>
      dsimp only
      exact ⟨⟨by omega, by omega⟩, by omega⟩
  · have d1 := of_decide_eq_false h1
    (repeat refine sq ?_)
    refine ev_exit ?_
    (repeat first | refine evx_then ?_ | refine evx_hit ?_ | refine evx_miss rfl ?_)
    (repeat first | refine et ?_ | refine eb ?_)
    (repeat refine sq ?_)
    have s3 := sumN_all (f := lenS) (l := W) (k := k) (by omega)
    refine rg ?_
    refine xm rfl rfl ?_
    refine xs rfl rfl ?_
    refine nl ?_
    (repeat first | refine et ?_ | refine eb ?_)
    (repeat refine sq ?_)
    refine ev_ret ?_
    (repeat first | refine evr_then ?_ | refine evr_blk ?_)
    refine ret_mark ttOk rfl rfl rfl ?_
    refine ⟨by rw [mixM_all p0 (by omega)], ?_⟩
    omega
theorem m_disk (t1 t2 : Nat) (d : Disk) (q : Int) (h : 0 ≤ q ∧ q ≤ 549755813888) (hs : smD d) : Marks Tryz.prog 107 (true, [.s t1 1 (d.kept.map fun r => [ints r]), .s t2 2 (d.wait.map fun x => [iC x.1, ints x.2])]) (true, [.s t1 1 (mkRows q d.kept), .s t2 2 (mkWrites (q + (sumN List.length d.kept : Nat)) d.wait)]) q (q + mkN d) := by
  refine marks_intro (N := 14) Tryz.func107 rfl rfl rfl rfl (fun w v F => ?_)
  unfold smD mkN at hs
  unfold mkN
  (repeat refine sq ?_)
  refine rg ?_
  refine evl_e (e_box rfl rfl rfl rfl) ?_
  refine xs rfl rfl ?_
  refine nl ?_
  (repeat first | refine et ?_ | refine eb ?_)
  (repeat refine sq ?_)
  refine rg ?_
  refine xf ttOk rfl rfl ?_
  refine xl ttOk rfl rfl ?_
  refine xm rfl rfl ?_
  refine evl_mark (cf rfl) rfl rfl rfl (m_rows _ _ _ (by omega) (by omega)) rfl rfl rfl ?_
  refine xs rfl rfl ?_
  refine nl ?_
  (repeat first | refine et ?_ | refine eb ?_)
  (repeat refine sq ?_)
  refine rg ?_
  refine xf ttOk rfl rfl ?_
  refine xl ttOk rfl rfl ?_
  refine xm rfl rfl ?_
  refine evl_mark (cf rfl) rfl rfl rfl (m_writes _ _ _ (by omega) (by omega)) rfl rfl rfl ?_
  refine xs rfl rfl ?_
  refine nl ?_
  (repeat first | refine et ?_ | refine eb ?_)
  (repeat refine sq ?_)
  refine rg ?_
  refine xm rfl rfl ?_
  refine xs rfl rfl ?_
  refine nl ?_
  (repeat first | refine et ?_ | refine eb ?_)
  (repeat refine sq ?_)
  refine ev_ret ?_
  (repeat first | refine evr_then ?_ | refine evr_blk ?_)
  refine ret_mark ttOk rfl rfl rfl ?_
  exact ⟨rfl, by omega⟩
theorem m_two (t1 t2 t3 t4 : Nat) (t : Two) (q : Int) (h : 0 ≤ q ∧ q ≤ 274877906944) (hs : smT t) : Marks Tryz.prog 31 (true, [.s t1 1 (t.a.kept.map fun r => [ints r]), .s t2 2 (t.a.wait.map fun x => [iC x.1, ints x.2]), .s t3 1 (t.b.kept.map fun r => [ints r]), .s t4 2 (t.b.wait.map fun x => [iC x.1, ints x.2])]) (true, [.s t1 1 (mkRows q t.a.kept), .s t2 2 (mkWrites (q + (sumN List.length t.a.kept : Nat)) t.a.wait), .s t3 1 (mkRows (q + mkN t.a) t.b.kept), .s t4 2 (mkWrites (q + mkN t.a + (sumN List.length t.b.kept : Nat)) t.b.wait)]) q (q + mkN t.a + mkN t.b) := by
  refine marks_intro (N := 14) Tryz.func31 rfl rfl rfl rfl (fun w v F => ?_)
  obtain ⟨hs1, hs2⟩ := hs
  have hs3 := hs1.2.2
  (repeat refine sq ?_)
  refine rg ?_
  refine evl_e (e_box rfl rfl rfl rfl) ?_
  refine xs rfl rfl ?_
  refine nl ?_
  (repeat first | refine et ?_ | refine eb ?_)
  (repeat refine sq ?_)
  refine rg ?_
  refine xf ttOk rfl rfl ?_
  refine xl ttOk rfl rfl ?_
  refine xm rfl rfl ?_
  first | refine evl_mark (cf rfl) rfl rfl rfl (m_disk _ _ t.a _ (by omega) (by assumption)) rfl rfl rfl ?_ | refine evl_mark (cf rfl) rfl rfl rfl (m_disk _ _ t.b _ (by omega) (by assumption)) rfl rfl rfl ?_
  refine xs rfl rfl ?_
  refine nl ?_
  (repeat first | refine et ?_ | refine eb ?_)
  (repeat refine sq ?_)
  refine rg ?_
  refine xf ttOk rfl rfl ?_
  refine xl ttOk rfl rfl ?_
  refine xm rfl rfl ?_
  first | refine evl_mark (cf rfl) rfl rfl rfl (m_disk _ _ t.a _ (by omega) (by assumption)) rfl rfl rfl ?_ | refine evl_mark (cf rfl) rfl rfl rfl (m_disk _ _ t.b _ (by omega) (by assumption)) rfl rfl rfl ?_
  refine xs rfl rfl ?_
  refine nl ?_
  (repeat first | refine et ?_ | refine eb ?_)
  (repeat refine sq ?_)
  refine rg ?_
  refine xm rfl rfl ?_
  refine xs rfl rfl ?_
  refine nl ?_
  (repeat first | refine et ?_ | refine eb ?_)
  (repeat refine sq ?_)
  refine ev_ret ?_
  (repeat first | refine evr_then ?_ | refine evr_blk ?_)
  refine ret_mark ttOk rfl rfl rfl ?_
  exact ⟨rfl, by omega⟩
theorem m_head (ty : Nat) (x : Head) (q : Int) (h : 0 ≤ q ∧ q + (3 * x.seen.length : Nat) ≤ 1099511627776) : Marks Tryz.prog 32 (true, [.v (.int .i64 x.num), .v (.int .i64 x.base), .v (.int .i64 x.time), .s ty 3 (x.seen.map markC)]) (true, [.v (.int .i64 x.num), .v (.int .i64 x.base), .v (.int .i64 x.time), .s ty 3 (mk3 q x.seen.length)]) q (q + (3 * x.seen.length : Nat)) := by
  refine marks_intro (N := 10) Tryz.func32 rfl rfl rfl rfl (fun w v F => ?_)
  (repeat refine sq ?_)
  refine rg ?_
  refine evl_e (e_box rfl rfl rfl rfl) ?_
  refine xs rfl rfl ?_
  refine nl ?_
  (repeat first | refine et ?_ | refine eb ?_)
  (repeat refine sq ?_)
  refine rg ?_
  refine xf ttOk rfl rfl ?_
  refine xl ttOk rfl rfl ?_
  refine xm rfl rfl ?_
  refine evl_mark (cf rfl) rfl rfl rfl (m_marks _ _ _ (by omega)) rfl rfl rfl ?_
  refine xs rfl rfl ?_
  refine nl ?_
  (repeat first | refine et ?_ | refine eb ?_)
  (repeat refine sq ?_)
  refine rg ?_
  refine xm rfl rfl ?_
  refine xs rfl rfl ?_
  refine nl ?_
  (repeat first | refine et ?_ | refine eb ?_)
  (repeat refine sq ?_)
  refine ev_ret ?_
  (repeat first | refine evr_then ?_ | refine evr_blk ?_)
  refine ret_mark ttOk rfl rfl rfl ?_
  exact ⟨rfl, by omega⟩

end Go.Proofs.YtpbhcdgdabfhfaaGreat
