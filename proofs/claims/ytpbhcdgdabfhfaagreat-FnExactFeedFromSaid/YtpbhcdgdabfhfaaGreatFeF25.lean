/- Walks of functions of the program, printed by a program of the prover. -/
import Derived.Test.YtpbhcdgdabfhfaaGreatFeF15
import Derived.Test.YtpbhcdgdabfhfaaGreatFeVF
import Derived.Test.YtpbhcdgdabfhfaaGreatFeVD
import Derived.Test.YtpbhcdgdabfhfaaGreatFeVP
namespace Go.Proofs.YtpbhcdgdabfhfaaGreat
open Go.ChangeShapes Go.WideShapes Go.ChangeAt Go.RowKit
set_option linter.unusedVariables false
set_option linter.unusedSimpArgs false
set_option maxHeartbeats 1000000
set_option maxRecDepth 100000
attribute [local irreducible] EvL Ev EvE Quiet Eff Pure RDk RDb RDo
def mkN (d : Disk) : Nat := sumN List.length d.kept + sumN lenS d.wait
def smD (d : Disk) : Prop := d.kept.length ≤ 1048576 ∧ d.wait.length ≤ 1048576 ∧ mkN d ≤ 4294967296
def smT (t : Two) : Prop := smD t.a ∧ smD t.b
theorem m_rows (ty : Nat) (K : List (List Int)) (q : Int) (h : 0 ≤ q ∧ q + (sumN List.length K : Nat) ≤ 1099511627776) (hl : K.length ≤ 1048576) : Marks Tryz.prog 177 (false, [.s ty 1 (K.map fun r => [ints r])]) (false, [.s ty 1 (mkRows q K)]) q (q + (sumN List.length K : Nat)) := by
 refine marks_intro (N := 19) Tryz.func177 rfl rfl rfl rfl (fun w v F => ?_)
 refine sq (rg (xs rfl rfl (nl (et (sq (sq (rg (xs rfl rfl (nl (et (ev_blk (ev_loop (fun i : Nat × Int => (⟨[(5, iV i.1), (1, iV i.2), (0, .p false [.rt 900])], [], [(900, ty, 1, mixM (fun r => [ints r]) (gR q K) K i.1)], []⟩ : St)) (fun i => i.1 ≤ K.length ∧ i.2 = q + (sumN List.length (K.take i.1) : Nat)) (fun i => K.length - i.1) (0, q) [] (⟨by simp, by simp [sumN]⟩) ⟨by (repeat first | exact trivial | refine ⟨rfl, ?_⟩), by (repeat first | exact trivial | refine ⟨rfl, ?_⟩), ⟨⟨_, rfl, by exact mixM_zero _ _ _⟩, trivial⟩, by (repeat first | exact trivial | refine ⟨⟨_, rfl, rfl⟩, ?_⟩), rfl⟩ ?_))))))))))))
 intro i hp
 obtain ⟨k, z⟩ := i
 have hp : k ≤ K.length ∧ z = q + (sumN List.length (K.take k) : Nat) := hp
 obtain ⟨p0, p1⟩ := hp
 show Ev _ _ _ _ (⟨[(5, iV k), (1, iV z), (0, .p false [.rt 900])], [], [(900, ty, 1, mixM (fun r => [ints r]) (gR q K) K k)], []⟩ : St)
 have hM : (mixM (fun r => [ints r]) (gR q K) K k).length = K.length := mixM_len p0
 refine sq (sq (rg (xm rfl rfl (xm rfl rfl (xo (q_len_rt ttOk rfl rfl rfl) rfl (xb ttOk rfl rfl (nl (et (ev_cond rfl (fun h1 => ?_) (fun h1 => ?_))))))))))
 · have d1 := of_decide_eq_true h1
   refine ev_skip (et (sq (ev_blk ?_)))
   have s1 := sumN_next (f := List.length) (l := K) (k := k) (by omega)
   have s2 := sumN_le List.length K (k + 1)
   refine rg (xm rfl rfl (xm rfl rfl (xo (q_ix_rt (m := k) ttOk rfl rfl rfl rfl rfl rfl (by first | (rw [hM]; omega) | (rw [List.length_set, hM]; omega))) rfl (xo (q_load_pr ttOk rfl rfl rfl rfl (mixM_at (by omega)) rfl rfl) rfl (xm rfl rfl (evl_marks (cf rfl) rfl rfl rfl rfl (mixM_at (by omega)) rfl (fun ty' => m_ints ty' (K[k]'(by omega)) z (by omega)) (mixM_set (by omega) (by unfold gR; rw [p1, getD_len (by omega)]; rfl)) rfl rfl rfl (xs rfl rfl (nl (eb (et (rg (xm rfl rfl (xa rfl rfl rfl (by omega) rfl (xs rfl rfl (nl (eve_round (k + 1, z + (K[k]'(by omega)).length) [] ?hp ⟨by (repeat first | exact trivial | refine ⟨rfl, ?_⟩), by (repeat first | exact trivial | refine ⟨rfl, ?_⟩), ⟨⟨_, rfl, by rfl⟩, trivial⟩, by (repeat first | exact trivial | refine ⟨⟨_, rfl, rfl⟩, ?_⟩), rfl⟩))))))))))))))))
   case hp =>
     dsimp only
     exact ⟨⟨by omega, by omega⟩, by omega⟩
 · have d1 := of_decide_eq_false h1
   refine ev_exit (evx_then (evx_then (evx_hit (et (sq ?_)))))
   have s3 := sumN_all (f := List.length) (l := K) (k := k) (by omega)
   refine rg (xm rfl rfl (xs rfl rfl (nl (et (ev_ret (ret_mark ttOk rfl rfl rfl (⟨by rw [mixM_all p0 (by omega)], ?_⟩)))))))
   omega
theorem m_writes (ty : Nat) (W : List (Int × List Int)) (q : Int) (h : 0 ≤ q ∧ q + (sumN lenS W : Nat) ≤ 1099511627776) (hl : W.length ≤ 1048576) : Marks Tryz.prog 178 (false, [.s ty 2 (W.map fun x => [iC x.1, ints x.2])]) (false, [.s ty 2 (mkWrites q W)]) q (q + (sumN lenS W : Nat)) := by
 refine marks_intro (N := 27) Tryz.func178 rfl rfl rfl rfl (fun w v F => ?_)
 refine sq (rg (xs rfl rfl (nl (et (sq (sq (rg (xs rfl rfl (nl (et (ev_blk (ev_loop (fun i : Nat × Int => (⟨[(5, iV i.1), (1, iV i.2), (0, .p false [.rt 900])], [], [(900, ty, 2, mixM (fun x => [iC x.1, ints x.2]) (gW q W) W i.1)], []⟩ : St)) (fun i => i.1 ≤ W.length ∧ i.2 = q + (sumN lenS (W.take i.1) : Nat)) (fun i => W.length - i.1) (0, q) [] (⟨by simp, by simp [sumN]⟩) ⟨by (repeat first | exact trivial | refine ⟨rfl, ?_⟩), by (repeat first | exact trivial | refine ⟨rfl, ?_⟩), ⟨⟨_, rfl, by exact mixM_zero _ _ _⟩, trivial⟩, by (repeat first | exact trivial | refine ⟨⟨_, rfl, rfl⟩, ?_⟩), rfl⟩ ?_))))))))))))
 intro i hp
 obtain ⟨k, z⟩ := i
 have hp : k ≤ W.length ∧ z = q + (sumN lenS (W.take k) : Nat) := hp
 obtain ⟨p0, p1⟩ := hp
 show Ev _ _ _ _ (⟨[(5, iV k), (1, iV z), (0, .p false [.rt 900])], [], [(900, ty, 2, mixM (fun x => [iC x.1, ints x.2]) (gW q W) W k)], []⟩ : St)
 have hM : (mixM (fun x => [iC x.1, ints x.2]) (gW q W) W k).length = W.length := mixM_len p0
 refine sq (sq (rg (xm rfl rfl (xm rfl rfl (xo (q_len_rt ttOk rfl rfl rfl) rfl (xb ttOk rfl rfl (nl (et (ev_cond rfl (fun h1 => ?_) (fun h1 => ?_))))))))))
 · have d1 := of_decide_eq_true h1
   refine ev_skip (et (sq (ev_blk (sq ?_))))
   have s1 := sumN_next (f := lenS) (l := W) (k := k) (by omega)
   have s2 := sumN_le lenS W (k + 1)
   have s5 : lenS (W[k]'(by omega)) = 1 + (W[k]'(by omega)).2.length := rfl
   refine rg (xm rfl rfl (xm rfl rfl (xm rfl rfl (xo (q_ix_rt (m := k) ttOk rfl rfl rfl rfl rfl rfl (by first | (rw [hM]; omega) | (rw [List.length_set, hM]; omega))) rfl (xf ttOk rfl rfl (evl_e (e_st_pr ttOk rfl rfl rfl rfl rfl rfl rfl (mixM_at (by omega)) rfl rfl rfl rfl rfl) (nl (et (sq (rg (xm rfl rfl (xa rfl rfl rfl (by omega) rfl (xs rfl rfl (nl (et (rg (xm rfl rfl (xm rfl rfl (xo (q_ix_rt (m := k) ttOk rfl rfl rfl rfl rfl rfl (by first | (rw [hM]; omega) | (rw [List.length_set, hM]; omega))) rfl (xf ttOk rfl rfl (xo (q_load_pr ttOk rfl rfl rfl rfl (set_get (by rw [hM]; omega)) rfl rfl) rfl (xm rfl rfl (evl_marks (cf rfl) rfl rfl rfl rfl (set_get (by rw [hM]; omega)) rfl (fun ty' => m_ints ty' (W[k]'(by omega)).2 (z + 1) (by omega)) (set2 (mixM_set (by omega) (by unfold gW; rw [p1, getD_lenW (by omega)]; rfl))) rfl rfl rfl (xs rfl rfl (nl (eb (et (rg (xm rfl rfl (xa rfl rfl rfl (by omega) rfl (xs rfl rfl (nl (eve_round (k + 1, z + 1 + (W[k]'(by omega)).2.length) [] ?hp ⟨by (repeat first | exact trivial | refine ⟨rfl, ?_⟩), by (repeat first | exact trivial | refine ⟨rfl, ?_⟩), ⟨⟨_, rfl, by rfl⟩, trivial⟩, by (repeat first | exact trivial | refine ⟨⟨_, rfl, rfl⟩, ?_⟩), rfl⟩)))))))))))))))))))))))))))))))))
   case hp =>
     dsimp only
     exact ⟨⟨by omega, by omega⟩, by omega⟩
 · have d1 := of_decide_eq_false h1
   refine ev_exit (evx_then (evx_then (evx_hit (et (sq ?_)))))
   have s3 := sumN_all (f := lenS) (l := W) (k := k) (by omega)
   refine rg (xm rfl rfl (xs rfl rfl (nl (et (ev_ret (ret_mark ttOk rfl rfl rfl (⟨by rw [mixM_all p0 (by omega)], ?_⟩)))))))
   omega
theorem m_disk (t1 t2 : Nat) (d : Disk) (q : Int) (h : 0 ≤ q ∧ q ≤ 549755813888) (hs : smD d) : Marks Tryz.prog 107 (true, [.s t1 1 (d.kept.map fun r => [ints r]), .s t2 2 (d.wait.map fun x => [iC x.1, ints x.2])]) (true, [.s t1 1 (mkRows q d.kept), .s t2 2 (mkWrites (q + (sumN List.length d.kept : Nat)) d.wait)]) q (q + mkN d) := by
 refine marks_intro (N := 14) Tryz.func107 rfl rfl rfl rfl (fun w v F => ?_)
 unfold smD mkN at hs
 unfold mkN
 refine sq (rg (evl_e (e_box rfl rfl rfl rfl) (xs rfl rfl (nl (et (sq (rg (xf ttOk rfl rfl (xl ttOk rfl rfl (xm rfl rfl (evl_mark (cf rfl) rfl rfl rfl (m_rows _ _ _ (by omega) (by omega)) rfl rfl rfl (xs rfl rfl (nl (et (sq (rg (xf ttOk rfl rfl (xl ttOk rfl rfl (xm rfl rfl (evl_mark (cf rfl) rfl rfl rfl (m_writes _ _ _ (by omega) (by omega)) rfl rfl rfl (xs rfl rfl (nl (et (sq (rg (xm rfl rfl (xs rfl rfl (nl (et (ev_ret (ret_mark ttOk rfl rfl rfl ?_)))))))))))))))))))))))))))))))
 exact ⟨rfl, by omega⟩
theorem m_two (t1 t2 t3 t4 : Nat) (t : Two) (q : Int) (h : 0 ≤ q ∧ q ≤ 274877906944) (hs : smT t) : Marks Tryz.prog 31 (true, [.s t1 1 (t.a.kept.map fun r => [ints r]), .s t2 2 (t.a.wait.map fun x => [iC x.1, ints x.2]), .s t3 1 (t.b.kept.map fun r => [ints r]), .s t4 2 (t.b.wait.map fun x => [iC x.1, ints x.2])]) (true, [.s t1 1 (mkRows q t.a.kept), .s t2 2 (mkWrites (q + (sumN List.length t.a.kept : Nat)) t.a.wait), .s t3 1 (mkRows (q + mkN t.a) t.b.kept), .s t4 2 (mkWrites (q + mkN t.a + (sumN List.length t.b.kept : Nat)) t.b.wait)]) q (q + mkN t.a + mkN t.b) := by
 refine marks_intro (N := 14) Tryz.func31 rfl rfl rfl rfl (fun w v F => ?_)
 obtain ⟨hs1, hs2⟩ := hs
 have hs3 := hs1.2.2
 refine sq (rg (evl_e (e_box rfl rfl rfl rfl) (xs rfl rfl (nl (et (sq (rg (xf ttOk rfl rfl (xl ttOk rfl rfl (xm rfl rfl ?_))))))))))
 first | refine evl_mark (cf rfl) rfl rfl rfl (m_disk _ _ t.a _ (by omega) (by assumption)) rfl rfl rfl ?_ | refine evl_mark (cf rfl) rfl rfl rfl (m_disk _ _ t.b _ (by omega) (by assumption)) rfl rfl rfl ?_
 refine xs rfl rfl (nl (et (sq (rg (xf ttOk rfl rfl (xl ttOk rfl rfl (xm rfl rfl ?_)))))))
 first | refine evl_mark (cf rfl) rfl rfl rfl (m_disk _ _ t.a _ (by omega) (by assumption)) rfl rfl rfl ?_ | refine evl_mark (cf rfl) rfl rfl rfl (m_disk _ _ t.b _ (by omega) (by assumption)) rfl rfl rfl ?_
 refine xs rfl rfl (nl (et (sq (rg (xm rfl rfl (xs rfl rfl (nl (et (ev_ret (ret_mark ttOk rfl rfl rfl ?_))))))))))
 exact ⟨rfl, by omega⟩
theorem m_head (ty : Nat) (x : Head) (q : Int) (h : 0 ≤ q ∧ q + (3 * x.seen.length : Nat) ≤ 1099511627776) : Marks Tryz.prog 32 (true, [.v (.int .i64 x.num), .v (.int .i64 x.base), .v (.int .i64 x.time), .s ty 3 (x.seen.map markC)]) (true, [.v (.int .i64 x.num), .v (.int .i64 x.base), .v (.int .i64 x.time), .s ty 3 (mk3 q x.seen.length)]) q (q + (3 * x.seen.length : Nat)) := by
 refine marks_intro (N := 10) Tryz.func32 rfl rfl rfl rfl (fun w v F => ?_)
 refine sq (rg (evl_e (e_box rfl rfl rfl rfl) (xs rfl rfl (nl (et (sq (rg (xf ttOk rfl rfl (xl ttOk rfl rfl (xm rfl rfl (evl_mark (cf rfl) rfl rfl rfl (m_marks _ _ _ (by omega)) rfl rfl rfl (xs rfl rfl (nl (et (sq (rg (xm rfl rfl (xs rfl rfl (nl (et (ev_ret (ret_mark ttOk rfl rfl rfl ?_))))))))))))))))))))))
 exact ⟨rfl, by omega⟩

end Go.Proofs.YtpbhcdgdabfhfaaGreat
namespace Go.Proofs.YtpbhcdgdabfhfaaGreat
open Go.ChangeShapes Go.WideShapes Go.ChangeAt Go.RowKit
set_option linter.unusedVariables false
set_option linter.unusedSimpArgs false
set_option maxHeartbeats 1000000
set_option maxRecDepth 100000
attribute [local irreducible] EvL Ev EvE Quiet Eff Pure RDk RDb RDo
theorem h_entries (m : Nat) (q q2 : Int) (hq : q2 = q) (h : 0 ≤ q ∧ q + (9 * m : Nat) ≤ 2199023255552) : Pure Tryz.prog 39 [one (.s 9 (mk9 q m)), one (iC q2)] (iR (q + (9 * m : Nat))) := by
 refine pure_intro (N := 99) Tryz.func39 rfl rfl rfl rfl (fun H w => ?_)
 have hr := rangeLen m
 refine sq (rg (xs rfl rfl (nl (et (sq (sq (rg (xs rfl rfl (nl (et (ev_blk (ev_loop (fun i : Nat × Int => (⟨[(5, iV i.1), (0, cV (.s 9 (mk9 q m))), (1, iV i.2)], [], [], []⟩ : St)) (fun i => i.1 ≤ m ∧ i.2 = q + (9 * i.1 : Nat)) (fun i => m - i.1) (0, q2) [] (⟨by simp, by simp [hq]⟩) ⟨by (repeat first | exact trivial | refine ⟨rfl, ?_⟩), by (repeat first | exact trivial | refine ⟨rfl, ?_⟩), by (repeat first | exact trivial | refine ⟨⟨_, rfl, rfl⟩, ?_⟩), by (repeat first | exact trivial | refine ⟨⟨_, rfl, rfl⟩, ?_⟩), rfl⟩ ?_))))))))))))
 intro i hp
 obtain ⟨k, z⟩ := i
 have hp : k ≤ m ∧ z = q + (9 * k : Nat) := hp
 obtain ⟨p0, p1⟩ := hp
 show Ev _ _ _ _ (⟨[(5, iV k), (0, cV (.s 9 (mk9 q m))), (1, iV z)], [], [], []⟩ : St)
 refine sq (sq (rg (xm rfl rfl (xm rfl rfl (xo (q_len_map ttOk rfl rfl) rfl (xb ttOk rfl rfl (nl (et (ev_cond rfl (fun h1 => ?_) (fun h1 => ?_))))))))))
 · have d1 := of_decide_eq_true h1
   refine ev_skip (et (sq (ev_blk (sq (sq (rg (xm rfl rfl (xm rfl rfl (xo (q_ix_map ttOk rfl rfl rfl rfl (by omega)) rfl (xf ttOk rfl rfl (xl ttOk rfl rfl (xm rfl rfl (xb ttOk rfl rfl (nl (et (ev_cond rfl (fun h2 => ?_) (fun h2 => ?_)))))))))))))))))
   · have d2 := of_decide_eq_true h2
     refine sq (rg (xs rfl rfl (nl (et (ev_ret (evr_then (evr_blk (evr_then (evr_then (evr_blk (evr_then (ret_pure' ttOk rfl rfl (congrArg iR (?_ : _ = _))))))))))))))
     first | omega | (exfalso; simp only [List.getElem_range] at *; omega) | (simp only [List.getElem_range] at *; omega)
   · have d2 := of_decide_eq_false h2
     refine ev_skip (et (sq (rg (xm rfl rfl (xa rfl rfl rfl (by omega) rfl (xs rfl rfl (nl (et (sq (sq (rg (xm rfl rfl (xm rfl rfl (xo (q_ix_map ttOk rfl rfl rfl rfl (by omega)) rfl (xf ttOk rfl rfl (xl ttOk rfl rfl (xm rfl rfl (xb ttOk rfl rfl (nl (et (ev_cond rfl (fun h3 => ?_) (fun h3 => ?_))))))))))))))))))))))
     · have d3 := of_decide_eq_true h3
       refine sq (rg (xs rfl rfl (nl (et (ev_ret (evr_then (evr_blk (evr_then (evr_then (evr_blk (evr_then (ret_pure' ttOk rfl rfl (congrArg iR (?_ : _ = _))))))))))))))
       first | omega | (exfalso; simp only [List.getElem_range] at *; omega) | (simp only [List.getElem_range] at *; omega)
     · have d3 := of_decide_eq_false h3
       refine ev_skip (et (sq (rg (xm rfl rfl (xa rfl rfl rfl (by omega) rfl (xs rfl rfl (nl (et (sq (sq (rg (xm rfl rfl (xm rfl rfl (xo (q_ix_map ttOk rfl rfl rfl rfl (by omega)) rfl (xf ttOk rfl rfl (xl ttOk rfl rfl (xm rfl rfl (xb ttOk rfl rfl (nl (et (ev_cond rfl (fun h4 => ?_) (fun h4 => ?_))))))))))))))))))))))
       · have d4 := of_decide_eq_true h4
         refine ev_pr [0, 1, 4, 5, 6, 7, 8, 9, 10, 11, 12, 13, 14, 15, 16, 17, 18, 19, 20, 21, 22, 23, 24, 25, 26, 27, 28, 29, 30, 31, 32, 33, 34, 35, 36, 37, 38, 39, 40, 41, 42, 43, 44, 45, 46, 47, 48, 49, 50, 51, 52, 53, 54, 55, 56, 57, 58, 59, 60, 61, 62, 63, 64, 65, 66, 67, 68, 69, 70, 71, 72, 73, 74, 75, 76, 77, 78, 79, 80, 81, 82, 83, 84, 85, 86, 87, 88, 89, 90, 91, 92, 93, 94, 95, 96, 97, 98] rfl (sq (rg (xs rfl rfl (nl (et (ev_ret (evr_then (evr_blk (evr_then (evr_then (evr_blk (evr_then (ret_pure' ttOk rfl rfl (congrArg iR (?_ : _ = _)))))))))))))))
         first | omega | (exfalso; simp only [List.getElem_range] at *; omega) | (simp only [List.getElem_range] at *; omega)
       · have d4 := of_decide_eq_false h4
         refine ev_skip (et (ev_pr [0, 1, 4, 5, 6, 7, 8, 9, 10, 11, 12, 13, 14, 15, 16, 17, 18, 19, 20, 21, 22, 23, 24, 25, 26, 27, 28, 29, 30, 31, 32, 33, 34, 35, 36, 37, 38, 39, 40, 41, 42, 43, 44, 45, 46, 47, 48, 49, 50, 51, 52, 53, 54, 55, 56, 57, 58, 59, 60, 61, 62, 63, 64, 65, 66, 67, 68, 69, 70, 71, 72, 73, 74, 75, 76, 77, 78, 79, 80, 81, 82, 83, 84, 85, 86, 87, 88, 89, 90, 91, 92, 93, 94, 95, 96, 97, 98] rfl (sq (rg (xm rfl rfl (xa rfl rfl rfl (by omega) rfl (xs rfl rfl (nl (et (sq (sq (rg (xm rfl rfl (xm rfl rfl (xo (q_ix_map ttOk rfl rfl rfl rfl (by omega)) rfl (xf ttOk rfl rfl (xl ttOk rfl rfl (xm rfl rfl (xb ttOk rfl rfl (nl (et (ev_cond rfl (fun h5 => ?_) (fun h5 => ?_)))))))))))))))))))))))
         · have d5 := of_decide_eq_true h5
           refine sq (rg (xs rfl rfl (nl (et (ev_ret (evr_then (evr_blk (evr_then (evr_then (evr_blk (evr_then (ret_pure' ttOk rfl rfl (congrArg iR (?_ : _ = _))))))))))))))
           first | omega | (exfalso; simp only [List.getElem_range] at *; omega) | (simp only [List.getElem_range] at *; omega)
         · have d5 := of_decide_eq_false h5
           refine ev_skip (et (sq (rg (xm rfl rfl (xa rfl rfl rfl (by omega) rfl (xs rfl rfl (nl (et (sq (sq (rg (xm rfl rfl (xm rfl rfl (xo (q_ix_map ttOk rfl rfl rfl rfl (by omega)) rfl (xf ttOk rfl rfl (xf ttOk rfl rfl (xl ttOk rfl rfl (xm rfl rfl (xb ttOk rfl rfl (nl (et (ev_cond rfl (fun h6 => ?_) (fun h6 => ?_)))))))))))))))))))))))
           · have d6 := of_decide_eq_true h6
             refine sq (rg (xs rfl rfl (nl (et (ev_ret (evr_then (evr_blk (evr_then (evr_then (evr_blk (evr_then (ret_pure' ttOk rfl rfl (congrArg iR (?_ : _ = _))))))))))))))
             first | omega | (exfalso; simp only [List.getElem_range] at *; omega) | (simp only [List.getElem_range] at *; omega)
           · have d6 := of_decide_eq_false h6
             refine ev_skip (et (sq (rg (xm rfl rfl (xa rfl rfl rfl (by omega) rfl (xs rfl rfl (nl (et (sq (sq (rg (xm rfl rfl (xm rfl rfl (xo (q_ix_map ttOk rfl rfl rfl rfl (by omega)) rfl (xf ttOk rfl rfl (xf ttOk rfl rfl (xl ttOk rfl rfl (xm rfl rfl (xb ttOk rfl rfl (nl (et (ev_cond rfl (fun h7 => ?_) (fun h7 => ?_)))))))))))))))))))))))
             · have d7 := of_decide_eq_true h7
               refine ev_pr [0, 1, 4, 5, 6, 7, 8, 9, 10, 11, 12, 13, 14, 15, 16, 17, 18, 19, 20, 21, 22, 23, 24, 25, 26, 27, 28, 29, 30, 31, 32, 33, 34, 35, 36, 37, 38, 39, 40, 41, 42, 43, 44, 45, 46, 47, 48, 49, 50, 51, 52, 53, 54, 55, 56, 57, 58, 59, 60, 61, 62, 63, 64, 65, 66, 67, 68, 69, 70, 71, 72, 73, 74, 75, 76, 77, 78, 79, 80, 81, 82, 83, 84, 85, 86, 87, 88, 89, 90, 91, 92, 93, 94, 95, 96, 97, 98] rfl (sq (rg (xs rfl rfl (nl (et (ev_ret (evr_then (evr_blk (evr_then (evr_then (evr_blk (evr_then (ret_pure' ttOk rfl rfl (congrArg iR (?_ : _ = _)))))))))))))))
               first | omega | (exfalso; simp only [List.getElem_range] at *; omega) | (simp only [List.getElem_range] at *; omega)
             · have d7 := of_decide_eq_false h7
               refine ev_skip (et (ev_pr [0, 1, 4, 5, 6, 7, 8, 9, 10, 11, 12, 13, 14, 15, 16, 17, 18, 19, 20, 21, 22, 23, 24, 25, 26, 27, 28, 29, 30, 31, 32, 33, 34, 35, 36, 37, 38, 39, 40, 41, 42, 43, 44, 45, 46, 47, 48, 49, 50, 51, 52, 53, 54, 55, 56, 57, 58, 59, 60, 61, 62, 63, 64, 65, 66, 67, 68, 69, 70, 71, 72, 73, 74, 75, 76, 77, 78, 79, 80, 81, 82, 83, 84, 85, 86, 87, 88, 89, 90, 91, 92, 93, 94, 95, 96, 97, 98] rfl (sq (rg (xm rfl rfl (xa rfl rfl rfl (by omega) rfl (xs rfl rfl (nl (et (sq (sq (rg (xm rfl rfl (xm rfl rfl (xo (q_ix_map ttOk rfl rfl rfl rfl (by omega)) rfl (xf ttOk rfl rfl (xf ttOk rfl rfl (xl ttOk rfl rfl (xm rfl rfl (xb ttOk rfl rfl (nl (et (ev_cond rfl (fun h8 => ?_) (fun h8 => ?_))))))))))))))))))))))))
               · have d8 := of_decide_eq_true h8
                 refine sq (rg (xs rfl rfl (nl (et (ev_ret (evr_then (evr_blk (evr_then (evr_then (evr_blk (evr_then (ret_pure' ttOk rfl rfl (congrArg iR (?_ : _ = _))))))))))))))
                 first | omega | (exfalso; simp only [List.getElem_range] at *; omega) | (simp only [List.getElem_range] at *; omega)
               · have d8 := of_decide_eq_false h8
                 refine ev_skip (et (sq (rg (xm rfl rfl (xa rfl rfl rfl (by omega) rfl (xs rfl rfl (nl (et (sq (sq (rg (xm rfl rfl (xm rfl rfl (xo (q_ix_map ttOk rfl rfl rfl rfl (by omega)) rfl (xf ttOk rfl rfl (xf ttOk rfl rfl (xl ttOk rfl rfl (xm rfl rfl (xb ttOk rfl rfl (nl (et (ev_cond rfl (fun h9 => ?_) (fun h9 => ?_)))))))))))))))))))))))
                 · have d9 := of_decide_eq_true h9
                   refine sq (rg (xs rfl rfl (nl (et (ev_ret (evr_then (evr_blk (evr_then (evr_then (evr_blk (evr_then (ret_pure' ttOk rfl rfl (congrArg iR (?_ : _ = _))))))))))))))
                   first | omega | (exfalso; simp only [List.getElem_range] at *; omega) | (simp only [List.getElem_range] at *; omega)
                 · have d9 := of_decide_eq_false h9
                   refine ev_skip (et (sq (rg (xm rfl rfl (xa rfl rfl rfl (by omega) rfl (xs rfl rfl (nl (et (ev_pr [0, 1, 4, 5, 6, 7, 8, 9, 10, 11, 12, 13, 14, 15, 16, 17, 18, 19, 20, 21, 22, 23, 24, 25, 26, 27, 28, 29, 30, 31, 32, 33, 34, 35, 36, 37, 38, 39, 40, 41, 42, 43, 44, 45, 46, 47, 48, 49, 50, 51, 52, 53, 54, 55, 56, 57, 58, 59, 60, 61, 62, 63, 64, 65, 66, 67, 68, 69, 70, 71, 72, 73, 74, 75, 76, 77, 78, 79, 80, 81, 82, 83, 84, 85, 86, 87, 88, 89, 90, 91, 92, 93, 94, 95, 96, 97, 98] rfl (sq (sq (rg (xm rfl rfl (xm rfl rfl (xo (q_ix_map ttOk rfl rfl rfl rfl (by omega)) rfl (xf ttOk rfl rfl (xf ttOk rfl rfl (xl ttOk rfl rfl (xm rfl rfl (xb ttOk rfl rfl (nl (et (ev_cond rfl (fun h10 => ?_) (fun h10 => ?_))))))))))))))))))))))))
                   · have d10 := of_decide_eq_true h10
                     refine sq (rg (xs rfl rfl (nl (et (ev_ret (evr_then (evr_blk (evr_then (evr_then (evr_blk (evr_then (ret_pure' ttOk rfl rfl (congrArg iR (?_ : _ = _))))))))))))))
                     first | omega | (exfalso; simp only [List.getElem_range] at *; omega) | (simp only [List.getElem_range] at *; omega)
                   · have d10 := of_decide_eq_false h10
                     refine ev_skip (et (rg (xm rfl rfl (xa rfl rfl rfl (by omega) rfl (xs rfl rfl (nl (eb (et (rg (xm rfl rfl (xa rfl rfl rfl (by omega) rfl (xs rfl rfl (nl (eve_round (k + 1, _) [] ?hp ⟨by (repeat first | exact trivial | refine ⟨rfl, ?_⟩), by (repeat first | exact trivial | refine ⟨rfl, ?_⟩), by (repeat first | exact trivial | refine ⟨⟨_, rfl, rfl⟩, ?_⟩), by (repeat first | exact trivial | refine ⟨⟨_, rfl, rfl⟩, ?_⟩), rfl⟩))))))))))))))
                     case hp =>
                       dsimp only
                       exact ⟨⟨by omega, by omega⟩, by omega⟩
 · have d1 := of_decide_eq_false h1
   refine ev_exit (evx_then (evx_then (evx_hit (et (sq (rg (xm rfl rfl (xs rfl rfl (nl (et (ev_ret (ret_pure' ttOk rfl rfl (congrArg iR (?_ : _ = _))))))))))))))
   first | omega | (exfalso; simp only [List.getElem_range] at *; omega) | (simp only [List.getElem_range] at *; omega)
end Go.Proofs.YtpbhcdgdabfhfaaGreat
namespace Go.Proofs.YtpbhcdgdabfhfaaGreat
open Go.ChangeShapes Go.WideShapes Go.ChangeAt Go.RowKit
set_option linter.unusedVariables false
set_option linter.unusedSimpArgs false
set_option maxHeartbeats 1000000
set_option maxRecDepth 100000
attribute [local irreducible] EvL Ev EvE Quiet Eff Pure RDk RDb RDo
theorem sumN_lenS : ∀ W : List (Int × List Int), sumN lenS W = W.length + sumN (fun x => x.2.length) W
  | [] => rfl
  | x :: W => by
    have := sumN_lenS W
    simp only [sumN, List.map_cons, List.sum_cons, List.length_cons, lenS] at *
    omega
theorem smD_of {d : Disk} (h : diskN d ≤ 1048576) : smD d := by
  have := sumN_lenS d.wait
  unfold diskN rowsN writesN at h
  exact ⟨by omega, by omega, by unfold mkN; omega⟩
theorem smT_of {t : Two} (h : twoN t ≤ 1048576) : smT t := ⟨smD_of (by unfold twoN at h; omega), smD_of (by unfold twoN at h; omega)⟩
end Go.Proofs.YtpbhcdgdabfhfaaGreat
namespace Go.Proofs.YtpbhcdgdabfhfaaGreat
open Go.ChangeShapes Go.WideShapes Go.ChangeAt Go.RowKit
set_option linter.unusedVariables false
set_option linter.unusedSimpArgs false
set_option maxHeartbeats 1000000
set_option maxRecDepth 100000
attribute [local irreducible] EvL Ev EvE Quiet Eff Pure RDk RDb RDo
structure Book where
  base : Int
  time : Int
  entries : List Entry
structure LogN where
  two : Two
  head : Head
  next : Head
  more : Bool
  book : Book
  seen : List Mark
  durable : Int
  owe : List Ack
@[reducible] def bookC (x : Book) : List C := [iC x.base, iC x.time, entries x.entries]
@[reducible] def logC (n : LogN) : List C := [rows n.two.a.kept, writes n.two.a.wait, rows n.two.b.kept, writes n.two.b.wait, iC n.head.num, iC n.head.base, iC n.head.time, marks n.head.seen, iC n.next.num, iC n.next.base, iC n.next.time, marks n.next.seen, bC n.more, iC n.book.base, iC n.book.time, entries n.book.entries, marks n.seen, iC n.durable, acks n.owe]
@[reducible] def entriesR (l : List Entry) : RC := .s 121 9 (l.map entryC)
@[reducible] def acksR (l : List Ack) : RC := .s 114 4 (l.map ackC)
@[reducible] def bookR (x : Book) : List RC := [.v (.int .i64 x.base), .v (.int .i64 x.time), entriesR x.entries]
@[reducible] def logR (n : LogN) : List RC := [rowsR n.two.a.kept, writesR n.two.a.wait, rowsR n.two.b.kept, writesR n.two.b.wait, .v (.int .i64 n.head.num), .v (.int .i64 n.head.base), .v (.int .i64 n.head.time), marksR n.head.seen, .v (.int .i64 n.next.num), .v (.int .i64 n.next.base), .v (.int .i64 n.next.time), marksR n.next.seen, .v (.bool n.more),
  .v (.int .i64 n.book.base), .v (.int .i64 n.book.time), entriesR n.book.entries, marksR n.seen, .v (.int .i64 n.durable), acksR n.owe]
def logSz (n : LogN) : Nat := twoN n.two + n.head.seen.length + n.next.seen.length + n.book.entries.length + n.seen.length + n.owe.length
theorem z_book (x : Book) (z : Int) (h : 0 ≤ z ∧ z ≤ 1048576) : Pure Tryz.prog 68 [many (bookC x), one (iC z)] (iR (szB z x.entries.length)) := by
 refine pure_intro (N := 12) Tryz.func68 rfl rfl rfl rfl (fun H w => ?_)
 refine sq (rg (evl_e (e_box rfl rfl rfl rfl) (xs rfl rfl (nl (et (sq (rg (xf ttOk rfl rfl (xl ttOk rfl rfl (xm rfl rfl (evl_call (nm := 8) (cf rfl) (z_entries _ _ (by omega)) (rs_of rfl) rfl rfl rfl (xs rfl rfl (nl (et (sq (sq (rg (xm rfl rfl (xb ttOk rfl rfl (nl (et (ev_cond rfl (fun h1 => ?_) (fun h1 => ?_)))))))))))))))))))))))
 · have d1 := of_decide_eq_true h1
   have e1 := szB_neg d1
   refine sq (rg (xs rfl rfl (nl (et (ev_ret (evr_then (ret_pure' ttOk rfl rfl (congrArg iR (?_ : _ = _)))))))))
   exact szB_is (fun _ => by omega) (fun _ => by omega)
 · have d1 := of_decide_eq_false h1
   have e1 := szB_pos d1
   refine ev_skip (et (sq (rg (xm rfl rfl (xs rfl rfl (nl (et (ev_ret (ret_pure' ttOk rfl rfl (congrArg iR (?_ : _ = _)))))))))))
   exact szB_is (fun _ => by omega) (fun _ => by omega)
theorem z_log (n : LogN) (z : Int) (h : 0 ≤ z ∧ z ≤ 1048576) : Pure Tryz.prog 18 [many (logC n), one (iC z)] (iR (szB z (logSz n))) := by
 refine pure_intro (N := 42) Tryz.func18 rfl rfl rfl rfl (fun H w => ?_)
 refine sq (rg (evl_e (e_box rfl rfl rfl rfl) (xs rfl rfl (nl (et (sq (rg (xf ttOk rfl rfl (xl ttOk rfl rfl (xm rfl rfl (evl_call (nm := 8) (cf rfl) (z_two n.two _ (by omega)) (rs_of rfl) rfl rfl rfl (xs rfl rfl (nl (et (sq (sq (rg (xm rfl rfl (xb ttOk rfl rfl (nl (et (ev_cond rfl (fun h1 => ?_) (fun h1 => ?_)))))))))))))))))))))))
 · have d1 := of_decide_eq_true h1
   have e1 := szB_neg d1
   refine sq (rg (xs rfl rfl (nl (et (ev_ret (evr_then (ret_pure' ttOk rfl rfl ?_)))))))
   unfold logSz
   refine congrArg iR (?_ : _ = _)
   exact szB_is (fun _ => by omega) (fun _ => by omega)
 · have d1 := of_decide_eq_false h1
   have e1 := szB_pos d1
   refine ev_skip (et (sq (rg (xf ttOk rfl rfl (xl ttOk rfl rfl (xm rfl rfl ?_))))))
   first | refine evl_call (nm := 14) (cf rfl) (z_head n.head _ (by omega)) (rs_of rfl) rfl rfl rfl ?_ | refine evl_call (nm := 14) (cf rfl) (z_head n.next _ (by omega)) (rs_of rfl) rfl rfl rfl ?_
   refine xs rfl rfl (nl (et (sq (sq (rg (xm rfl rfl (xb ttOk rfl rfl (nl (et (ev_cond rfl (fun h2 => ?_) (fun h2 => ?_)))))))))))
   · have d2 := of_decide_eq_true h2
     have e2 := szB_neg d2
     refine sq (rg (xs rfl rfl (nl (et (ev_ret (evr_then (ret_pure' ttOk rfl rfl ?_)))))))
     unfold logSz
     refine congrArg iR (?_ : _ = _)
     exact szB_is (fun _ => by omega) (fun _ => by omega)
   · have d2 := of_decide_eq_false h2
     have e2 := szB_pos d2
     refine ev_skip (et (sq (rg (xf ttOk rfl rfl (xl ttOk rfl rfl (xm rfl rfl ?_))))))
     first | refine evl_call (nm := 20) (cf rfl) (z_head n.head _ (by omega)) (rs_of rfl) rfl rfl rfl ?_ | refine evl_call (nm := 20) (cf rfl) (z_head n.next _ (by omega)) (rs_of rfl) rfl rfl rfl ?_
     refine xs rfl rfl (nl (et (sq (sq (rg (xm rfl rfl (xb ttOk rfl rfl (nl (et (ev_cond rfl (fun h3 => ?_) (fun h3 => ?_)))))))))))
     · have d3 := of_decide_eq_true h3
       have e3 := szB_neg d3
       refine sq (rg (xs rfl rfl (nl (et (ev_ret (evr_then (ret_pure' ttOk rfl rfl ?_)))))))
       unfold logSz
       refine congrArg iR (?_ : _ = _)
       exact szB_is (fun _ => by omega) (fun _ => by omega)
     · have d3 := of_decide_eq_false h3
       have e3 := szB_pos d3
       refine ev_skip (et (sq (rg (xf ttOk rfl rfl (xl ttOk rfl rfl (xm rfl rfl (evl_call (nm := 26) (cf rfl) (z_book n.book _ (by omega)) (rs_of rfl) rfl rfl rfl (xs rfl rfl (nl (et (ev_pr [1, 2, 4, 27, 28, 29, 30, 31, 32, 33, 34, 35, 36, 37, 38, 39, 40, 41] rfl (sq (sq (rg (xm rfl rfl (xb ttOk rfl rfl (nl (et (ev_cond rfl (fun h4 => ?_) (fun h4 => ?_))))))))))))))))))))
       · have d4 := of_decide_eq_true h4
         have e4 := szB_neg d4
         refine sq (rg (xs rfl rfl (nl (et (ev_ret (evr_then (ret_pure' ttOk rfl rfl ?_)))))))
         unfold logSz
         refine congrArg iR (?_ : _ = _)
         exact szB_is (fun _ => by omega) (fun _ => by omega)
       · have d4 := of_decide_eq_false h4
         have e4 := szB_pos d4
         refine ev_skip (et (sq (rg (xf ttOk rfl rfl (xl ttOk rfl rfl (xm rfl rfl (evl_call (nm := 32) (cf rfl) (z_marks _ _ (by omega)) (rs_of rfl) rfl rfl rfl (xs rfl rfl (nl (et (sq (sq (rg (xm rfl rfl (xb ttOk rfl rfl (nl (et (ev_cond rfl (fun h5 => ?_) (fun h5 => ?_)))))))))))))))))))
         · have d5 := of_decide_eq_true h5
           have e5 := szB_neg d5
           refine sq (rg (xs rfl rfl (nl (et (ev_ret (evr_then (ret_pure' ttOk rfl rfl ?_)))))))
           unfold logSz
           refine congrArg iR (?_ : _ = _)
           exact szB_is (fun _ => by omega) (fun _ => by omega)
         · have d5 := of_decide_eq_false h5
           have e5 := szB_pos d5
           refine ev_skip (et (sq (rg (xf ttOk rfl rfl (xl ttOk rfl rfl (xm rfl rfl (evl_call (nm := 38) (cf rfl) (z_acks _ _ (by omega)) (rs_of rfl) rfl rfl rfl (xs rfl rfl (nl (et (sq (sq (rg (xm rfl rfl (xb ttOk rfl rfl (nl (et (ev_cond rfl (fun h6 => ?_) (fun h6 => ?_)))))))))))))))))))
           · have d6 := of_decide_eq_true h6
             have e6 := szB_neg d6
             refine sq (rg (xs rfl rfl (nl (et (ev_ret (evr_then (ret_pure' ttOk rfl rfl ?_)))))))
             unfold logSz
             refine congrArg iR (?_ : _ = _)
             exact szB_is (fun _ => by omega) (fun _ => by omega)
           · have d6 := of_decide_eq_false h6
             have e6 := szB_pos d6
             refine ev_skip (et (sq (rg (xm rfl rfl (xs rfl rfl (nl (et (ev_ret (ret_pure' ttOk rfl rfl ?_)))))))))
             unfold logSz
             refine congrArg iR (?_ : _ = _)
             exact szB_is (fun _ => by omega) (fun _ => by omega)
theorem t_op (k x1 x2 x3 x4 : Int) : Pure Tryz.prog 244 [many ([iC k, iC x1, iC x2, iC x3, iC x4])] [many' ([.v (.int .i64 k), .v (.int .i64 x1), .v (.int .i64 x2), .v (.int .i64 x3), .v (.int .i64 x4)])] := by
 refine pure_intro (N := 20) Tryz.func244 rfl rfl rfl rfl (fun H w => ?_)
 refine sq (rg (evl_e (e_box rfl rfl rfl rfl) (evl_e (e_alloc ttOk rfl rfl rfl rfl) (nl (et (sq (rg (evl_e (e_alloc ttOk rfl rfl rfl rfl) (nl (et (sq (rg (xf ttOk rfl rfl (xl ttOk rfl rfl (xf ttOk rfl rfl (xst ttOk rfl rfl (nl (et (sq (rg (xf ttOk rfl rfl (xl ttOk rfl rfl (xf ttOk rfl rfl (xst ttOk rfl rfl (nl (et (sq (rg (xf ttOk rfl rfl (xl ttOk rfl rfl (xf ttOk rfl rfl (xst ttOk rfl rfl (nl (et (sq (rg (xf ttOk rfl rfl (xl ttOk rfl rfl (xf ttOk rfl rfl (xst ttOk rfl rfl (nl (et (sq (rg (xf ttOk rfl rfl (xl ttOk rfl rfl (xf ttOk rfl rfl (xst ttOk rfl rfl (nl (et ?_))))))))))))))))))))))))))))))))))))))))))))))))))
 refine sq (rg (xl ttOk rfl rfl (xst ttOk rfl rfl (nl (et (ev_ret (ret_pure' ttOk rfl rfl ?_)))))))
 rfl
theorem t_entry (e : Entry) : Pure Tryz.prog 210 [many (entryC e)] [many' ([.v (.int .i64 e.index), .v (.int .i64 e.time), .v (.int .i64 e.client), .v (.int .i64 e.seq), .v (.int .i64 e.kind), .v (.int .i64 e.a), .v (.int .i64 e.b), .v (.int .i64 e.c), .v (.int .i64 e.d)])] := by
 refine pure_intro (N := 21) Tryz.func210 rfl rfl rfl rfl (fun H w => ?_)
 refine sq (rg (evl_e (e_box rfl rfl rfl rfl) (evl_e (e_alloc ttOk rfl rfl rfl rfl) (nl (et (sq (rg (evl_e (e_alloc ttOk rfl rfl rfl rfl) (nl (et (sq (rg (xf ttOk rfl rfl (xl ttOk rfl rfl (xf ttOk rfl rfl (xst ttOk rfl rfl (nl (et (sq (rg (xf ttOk rfl rfl (xl ttOk rfl rfl (xf ttOk rfl rfl (xst ttOk rfl rfl (nl (et (sq (rg (xf ttOk rfl rfl (xl ttOk rfl rfl (xf ttOk rfl rfl (xst ttOk rfl rfl (nl (et (sq (rg (xf ttOk rfl rfl (xl ttOk rfl rfl (xf ttOk rfl rfl (xst ttOk rfl rfl (nl (et (sq (rg (xf ttOk rfl rfl (xl ttOk rfl rfl (evl_call (nm := 18) (cf rfl) (t_op _ _ _ _ _) (rs_of rfl) rfl rfl rfl (xf ttOk rfl rfl (xst ttOk rfl rfl (nl ?_))))))))))))))))))))))))))))))))))))))))))))))))))
 refine et (sq (rg (xl ttOk rfl rfl (xst ttOk rfl rfl (nl (et (ev_ret (ret_pure' ttOk rfl rfl ?_))))))))
 rfl
theorem t_entries (l : List Entry) (h : l.length ≤ 1048576) : Pure Tryz.prog 149 [one (entries l)] [one' (RC.s 121 9 (l.map (entryC)))] := by
 refine pure_intro (N := 23) Tryz.func149 rfl rfl rfl rfl (fun H w => ?_)
 refine ev_lenm (t := 0) rfl (fun hL => ?_)
 refine sq (rg (xs rfl rfl (nl (et (sq (rg (xm rfl rfl (xo (q_len_map ttOk rfl rfl) rfl (evl_e (e_make ttOk rfl rfl rfl rfl rfl rfl rfl (by omega) rfl rfl) (xs rfl rfl (nl (et (sq (sq (rg (xs rfl rfl (nl (et (ev_blk (ev_loop (fun k : Nat => (⟨[(4, iV k), (0, cV (entries l)), (3, .p false [.rt 7])], [], [(7, 121, 9, mixR (entryC) [iC 0, iC 0, iC 0, iC 0, iC 0, iC 0, iC 0, iC 0, iC 0] l k)], []⟩ : St)) (fun k => k ≤ l.length) (fun k => l.length - k) 0 [] (by simp) ⟨by (repeat first | exact trivial | refine ⟨rfl, ?_⟩), by (repeat first | exact trivial | refine ⟨rfl, ?_⟩), ⟨⟨_, rfl, by exact mixR_zero _ _ _⟩, trivial⟩, by (repeat first | exact trivial | refine ⟨⟨_, rfl, rfl⟩, ?_⟩), rfl⟩ ?_))))))))))))))))))))
 intro k hp
 have p0 := hp
 show Ev _ _ _ _ (⟨[(4, iV k), (0, cV (entries l)), (3, .p false [.rt 7])], [], [(7, 121, 9, mixR (entryC) [iC 0, iC 0, iC 0, iC 0, iC 0, iC 0, iC 0, iC 0, iC 0] l k)], []⟩ : St)
 refine sq (sq (rg (xm rfl rfl (xm rfl rfl (xo (q_len_map ttOk rfl rfl) rfl (xb ttOk rfl rfl (nl (et (ev_cond rfl (fun h1 => ?_) (fun h1 => ?_))))))))))
 · have d1 := of_decide_eq_true h1
   refine ev_skip (et (sq (ev_blk (rg (xm rfl rfl (xm rfl rfl (xm rfl rfl (xm rfl rfl (xo (q_ix_map ttOk rfl rfl rfl rfl (by omega)) rfl (xl ttOk rfl rfl (evl_call (nm := 20) (cf rfl) (t_entry (l[k]'(by omega))) (rs_of rfl) rfl rfl rfl (xo (q_ix_rt (m := k) ttOk rfl rfl rfl rfl rfl rfl (by rw [mixR_len (by omega)]; omega)) rfl (evl_e (e_st_pr ttOk rfl rfl rfl rfl rfl rfl rfl (mixR_at (by omega)) rfl (mixR_set (f := entryC) (l := l) (by omega)) rfl rfl rfl) (nl (eb (et (rg (xm rfl rfl (xa rfl rfl rfl (by omega) rfl (xs rfl rfl (nl (eve_round (k + 1) [] ?hp ⟨by (repeat first | exact trivial | refine ⟨rfl, ?_⟩), by (repeat first | exact trivial | refine ⟨rfl, ?_⟩), ⟨⟨_, rfl, by rfl⟩, trivial⟩, by (repeat first | exact trivial | refine ⟨⟨_, rfl, rfl⟩, ?_⟩), rfl⟩))))))))))))))))))))))
   case hp => exact ⟨by omega, by omega⟩
 · have d1 := of_decide_eq_false h1
   refine ev_exit (evx_then (evx_then (evx_hit (et (sq (rg (xm rfl rfl (xs rfl rfl (nl (et (ev_ret (ret_pure' ttOk rfl rfl ?_))))))))))))
   rw [mixR_all (by omega)]
theorem t_book (x : Book) (h : x.entries.length ≤ 1048576) : Pure Tryz.prog 81 [many (bookC x)] [many' (bookR x)] := by
 refine pure_intro (N := 15) Tryz.func81 rfl rfl rfl rfl (fun H w => ?_)
 refine sq (rg (evl_e (e_box rfl rfl rfl rfl) (evl_e (e_alloc ttOk rfl rfl rfl rfl) (nl (et (sq (rg (evl_e (e_alloc ttOk rfl rfl rfl rfl) (nl (et (sq (rg (xf ttOk rfl rfl (xl ttOk rfl rfl (xf ttOk rfl rfl (xst ttOk rfl rfl (nl (et (sq (rg (xf ttOk rfl rfl (xl ttOk rfl rfl (xf ttOk rfl rfl (xst ttOk rfl rfl (nl (et (sq (rg (xf ttOk rfl rfl (xl ttOk rfl rfl (evl_call (nm := 12) (cf rfl) (t_entries _ (by omega)) (rs_of rfl) rfl rfl rfl (xf ttOk rfl rfl (xst ttOk rfl rfl (nl (et (sq (rg (xl ttOk rfl rfl (xst ttOk rfl rfl (nl (et (ev_ret (ret_pure' ttOk rfl rfl ?_)))))))))))))))))))))))))))))))))))))))))))
 rfl
theorem t_log (n : LogN) (h : logSz n ≤ 1048576) : Pure Tryz.prog 20 [many (logC n)] [many' (logR n)] := by
 refine pure_intro (N := 35) Tryz.func20 rfl rfl rfl rfl (fun H w => ?_)
 unfold logSz at h
 refine sq (rg (evl_e (e_box rfl rfl rfl rfl) (evl_e (e_alloc ttOk rfl rfl rfl rfl) (nl (et (sq (rg (evl_e (e_alloc ttOk rfl rfl rfl rfl) (nl (et (sq (rg (xf ttOk rfl rfl (xl ttOk rfl rfl (evl_call (nm := 6) (cf rfl) (t_two n.two (by omega)) (rs_of rfl) rfl rfl rfl (xf ttOk rfl rfl (xst ttOk rfl rfl (nl (et (sq (rg (xf ttOk rfl rfl (xl ttOk rfl rfl ?_)))))))))))))))))))))))
 first | refine evl_call (nm := 10) (cf rfl) (t_head n.head (by omega)) (rs_of rfl) rfl rfl rfl ?_ | refine evl_call (nm := 10) (cf rfl) (t_head n.next (by omega)) (rs_of rfl) rfl rfl rfl ?_
 refine xf ttOk rfl rfl (xst ttOk rfl rfl (nl (et (sq (rg (xf ttOk rfl rfl (xl ttOk rfl rfl ?_)))))))
 first | refine evl_call (nm := 14) (cf rfl) (t_head n.head (by omega)) (rs_of rfl) rfl rfl rfl ?_ | refine evl_call (nm := 14) (cf rfl) (t_head n.next (by omega)) (rs_of rfl) rfl rfl rfl ?_
 refine xf ttOk rfl rfl (xst ttOk rfl rfl (nl (et (sq (rg (xf ttOk rfl rfl (xl ttOk rfl rfl (xf ttOk rfl rfl (xst ttOk rfl rfl (nl (et (sq (rg (xf ttOk rfl rfl (xl ttOk rfl rfl (evl_call (nm := 21) (cf rfl) (t_book n.book (by omega)) (rs_of rfl) rfl rfl rfl (xf ttOk rfl rfl (xst ttOk rfl rfl (nl (et (sq (rg (xf ttOk rfl rfl (xl ttOk rfl rfl (evl_call (nm := 25) (cf rfl) (t_marks n.seen (by omega)) (rs_of rfl) rfl rfl rfl (xf ttOk rfl rfl (xst ttOk rfl rfl (nl (et (ev_pr [1, 2, 3, 27, 28, 29, 30, 31, 32, 33, 34] rfl (sq (rg (xf ttOk rfl rfl (xl ttOk rfl rfl (xf ttOk rfl rfl (xst ttOk rfl rfl (nl (et (sq (rg (xf ttOk rfl rfl (xl ttOk rfl rfl (evl_call (nm := 32) (cf rfl) (t_acks n.owe (by omega)) (rs_of rfl) rfl rfl rfl (xf ttOk rfl rfl (xst ttOk rfl rfl (nl (et (sq (rg (xl ttOk rfl rfl ?_))))))))))))))))))))))))))))))))))))))))))))))))))
 refine xst ttOk rfl rfl (nl (et (ev_ret (ret_pure' ttOk rfl rfl ?_))))
 rfl
theorem e_op (k x1 x2 x3 x4 : Int) : Pure Tryz.prog 179 [many ([iC k, iC x1, iC x2, iC x3, iC x4]), many ([iC k, iC x1, iC x2, iC x3, iC x4])] (bR true) := by
 refine pure_intro (N := 30) Tryz.func179 rfl rfl rfl rfl (fun H w => ?_)
 refine sq (rg (evl_e (e_box rfl rfl rfl rfl) (evl_e (e_box rfl rfl rfl rfl) (xs rfl rfl (nl (et (sq (sq (rg (xf ttOk rfl rfl (xl ttOk rfl rfl (xf ttOk rfl rfl (xl ttOk rfl rfl (xb ttOk rfl rfl (nl (et (ev_cond rfl (fun h1 => ?_) (fun h1 => ?_))))))))))))))))))
 · try have d1 := of_decide_eq_true h1
   refine sq (rg (xs rfl rfl (nl (et (ev_ret (evr_then (ret_pure' ttOk rfl rfl (congrArg bR (?_ : _ = _)))))))))
   first | rfl | (exfalso; simp_all; done) | (exfalso; omega)
 · try have d1 := of_decide_eq_false h1
   refine ev_skip (et (sq (sq (rg (xf ttOk rfl rfl (xl ttOk rfl rfl (xf ttOk rfl rfl (xl ttOk rfl rfl (xb ttOk rfl rfl (nl (et (ev_cond rfl (fun h2 => ?_) (fun h2 => ?_)))))))))))))
   · try have d2 := of_decide_eq_true h2
     refine sq (rg (xs rfl rfl (nl (et (ev_ret (evr_then (ret_pure' ttOk rfl rfl (congrArg bR (?_ : _ = _)))))))))
     first | rfl | (exfalso; simp_all; done) | (exfalso; omega)
   · try have d2 := of_decide_eq_false h2
     refine ev_skip (et (sq (sq (rg (xf ttOk rfl rfl (xl ttOk rfl rfl (xf ttOk rfl rfl (xl ttOk rfl rfl (xb ttOk rfl rfl (nl (et (ev_cond rfl (fun h3 => ?_) (fun h3 => ?_)))))))))))))
     · try have d3 := of_decide_eq_true h3
       refine sq (rg (xs rfl rfl (nl (et (ev_ret (evr_then (ret_pure' ttOk rfl rfl (congrArg bR (?_ : _ = _)))))))))
       first | rfl | (exfalso; simp_all; done) | (exfalso; omega)
     · try have d3 := of_decide_eq_false h3
       refine ev_skip (et (sq (sq (rg (xf ttOk rfl rfl (xl ttOk rfl rfl (xf ttOk rfl rfl (xl ttOk rfl rfl (xb ttOk rfl rfl (nl (et (ev_cond rfl (fun h4 => ?_) (fun h4 => ?_)))))))))))))
       · try have d4 := of_decide_eq_true h4
         refine sq (rg (xs rfl rfl (nl (et (ev_ret (evr_then (ret_pure' ttOk rfl rfl (congrArg bR (?_ : _ = _)))))))))
         first | rfl | (exfalso; simp_all; done) | (exfalso; omega)
       · try have d4 := of_decide_eq_false h4
         refine ev_skip (et (sq (sq (rg (xf ttOk rfl rfl (xl ttOk rfl rfl (xf ttOk rfl rfl (xl ttOk rfl rfl (xb ttOk rfl rfl (nl (et (ev_cond rfl (fun h5 => ?_) (fun h5 => ?_)))))))))))))
         · try have d5 := of_decide_eq_true h5
           refine ev_pr [4] rfl (sq (rg (xs rfl rfl (nl (et (ev_ret (evr_then (ret_pure' ttOk rfl rfl (congrArg bR (?_ : _ = _))))))))))
           first | rfl | (exfalso; simp_all; done) | (exfalso; omega)
         · try have d5 := of_decide_eq_false h5
           refine ev_skip (et (ev_pr [4] rfl (sq (rg (xs rfl rfl (nl (et (ev_ret (ret_pure' ttOk rfl rfl (congrArg bR (?_ : _ = _)))))))))))
           first | rfl | (exfalso; simp_all; done) | (exfalso; omega)
theorem e_entry (e : Entry) : Pure Tryz.prog 110 [many (entryC e), many (entryC e)] (bR true) := by
 refine pure_intro (N := 31) Tryz.func110 rfl rfl rfl rfl (fun H w => ?_)
 refine sq (rg (evl_e (e_box rfl rfl rfl rfl) (evl_e (e_box rfl rfl rfl rfl) (xs rfl rfl (nl (et (sq (sq (rg (xf ttOk rfl rfl (xl ttOk rfl rfl (xf ttOk rfl rfl (xl ttOk rfl rfl (xb ttOk rfl rfl (nl (et (ev_cond rfl (fun h1 => ?_) (fun h1 => ?_))))))))))))))))))
 · try have d1 := of_decide_eq_true h1
   refine sq (rg (xs rfl rfl (nl (et (ev_ret (evr_then (ret_pure' ttOk rfl rfl (congrArg bR (?_ : _ = _)))))))))
   first | rfl | (exfalso; simp_all; done) | (exfalso; omega)
 · try have d1 := of_decide_eq_false h1
   refine ev_skip (et (sq (sq (rg (xf ttOk rfl rfl (xl ttOk rfl rfl (xf ttOk rfl rfl (xl ttOk rfl rfl (xb ttOk rfl rfl (nl (et (ev_cond rfl (fun h2 => ?_) (fun h2 => ?_)))))))))))))
   · try have d2 := of_decide_eq_true h2
     refine sq (rg (xs rfl rfl (nl (et (ev_ret (evr_then (ret_pure' ttOk rfl rfl (congrArg bR (?_ : _ = _)))))))))
     first | rfl | (exfalso; simp_all; done) | (exfalso; omega)
   · try have d2 := of_decide_eq_false h2
     refine ev_skip (et (sq (sq (rg (xf ttOk rfl rfl (xl ttOk rfl rfl (xf ttOk rfl rfl (xl ttOk rfl rfl (xb ttOk rfl rfl (nl (et (ev_cond rfl (fun h3 => ?_) (fun h3 => ?_)))))))))))))
     · try have d3 := of_decide_eq_true h3
       refine sq (rg (xs rfl rfl (nl (et (ev_ret (evr_then (ret_pure' ttOk rfl rfl (congrArg bR (?_ : _ = _)))))))))
       first | rfl | (exfalso; simp_all; done) | (exfalso; omega)
     · try have d3 := of_decide_eq_false h3
       refine ev_skip (et (sq (sq (rg (xf ttOk rfl rfl (xl ttOk rfl rfl (xf ttOk rfl rfl (xl ttOk rfl rfl (xb ttOk rfl rfl (nl (et (ev_cond rfl (fun h4 => ?_) (fun h4 => ?_)))))))))))))
       · try have d4 := of_decide_eq_true h4
         refine sq (rg (xs rfl rfl (nl (et (ev_ret (evr_then (ret_pure' ttOk rfl rfl (congrArg bR (?_ : _ = _)))))))))
         first | rfl | (exfalso; simp_all; done) | (exfalso; omega)
       · try have d4 := of_decide_eq_false h4
         refine ev_skip (et (sq (sq (rg (xf ttOk rfl rfl (xl ttOk rfl rfl (xf ttOk rfl rfl (xl ttOk rfl rfl (evl_call (nm := 29) (cf rfl) (e_op _ _ _ _ _) (rs_of rfl) rfl rfl rfl (xo (q_not rfl) rfl (nl (et (ev_cond_n rfl (fun h5 => ?_) (fun h5 => ?_))))))))))))))
         · try have d5 := of_decide_eq_false h5
           refine ev_pr [4] rfl (sq (rg (xs rfl rfl (nl (et (ev_ret (evr_then (ret_pure' ttOk rfl rfl (congrArg bR (?_ : _ = _))))))))))
           first | rfl | (exfalso; simp_all; done) | (exfalso; omega)
         · try have d5 := of_decide_eq_true h5
           refine ev_skip (et (ev_pr [4] rfl (sq (rg (xs rfl rfl (nl (et (ev_ret (ret_pure' ttOk rfl rfl (congrArg bR (?_ : _ = _)))))))))))
           first | rfl | (exfalso; simp_all; done) | (exfalso; omega)
theorem e_entries (l : List Entry) : Pure Tryz.prog 37 [one (entries l), one (entries l)] (bR true) := by
 refine pure_intro (N := 27) Tryz.func37 rfl rfl rfl rfl (fun H w => ?_)
 refine ev_lenm (t := 0) rfl (fun hL => ?_)
 refine ev_lenm (t := 1) rfl (fun hM => ?_)
 refine sq (rg (xs rfl rfl (nl (et (sq (sq (rg (xm rfl rfl (xo (q_len_map ttOk rfl rfl) rfl (xm rfl rfl (xo (q_len_map ttOk rfl rfl) rfl (xb ttOk rfl rfl (nl (et (ev_cond rfl (fun h1 => ?_) (fun h1 => ?_))))))))))))))))
 · try have d1 := of_decide_eq_true h1
   refine sq (rg (xs rfl rfl (nl (et (ev_ret (evr_then (ret_pure' ttOk rfl rfl (congrArg bR (?_ : _ = _)))))))))
   first | rfl | (exfalso; simp_all; done) | (exfalso; omega)
 · try have d1 := of_decide_eq_false h1
   refine ev_skip (et (sq (sq (rg (xs rfl rfl (nl (et (ev_blk (ev_loop (fun k : Nat => (⟨[(5, iV k), (0, cV (entries l)), (1, cV (entries l))], [], [], []⟩ : St)) (fun k => k ≤ l.length) (fun k => l.length - k) 0 [] (by simp) ⟨by (repeat first | exact trivial | refine ⟨rfl, ?_⟩), by (repeat first | exact trivial | refine ⟨rfl, ?_⟩), by (repeat first | exact trivial | refine ⟨⟨_, rfl, rfl⟩, ?_⟩), by (repeat first | exact trivial | refine ⟨⟨_, rfl, rfl⟩, ?_⟩), rfl⟩ ?_)))))))))
   intro k hp
   have p0 := hp
   show Ev _ _ _ _ (⟨[(5, iV k), (0, cV (entries l)), (1, cV (entries l))], [], [], []⟩ : St)
   refine sq (sq (rg (xm rfl rfl (xm rfl rfl (xo (q_len_map ttOk rfl rfl) rfl (xb ttOk rfl rfl (nl (et (ev_cond rfl (fun h2 => ?_) (fun h2 => ?_))))))))))
   · try have d2 := of_decide_eq_true h2
     refine ev_skip (et (sq (ev_blk (sq (ev_drawq [] mo (rdk_take 0 rfl (by kernel_rfl) trivial (q_move rfl) rfl (rdk_take 1 rfl (by kernel_rfl) trivial (q_move rfl) rfl (rdk_take 2 rfl (by kernel_rfl) trivial (q_ix_map ttOk rfl rfl rfl rfl (by omega)) rfl (rdk_take 3 rfl (by kernel_rfl) trivial (q_load ttOk rfl) rfl (rdk_take 4 rfl (by kernel_rfl) trivial (q_move rfl) rfl (rdk_take 5 rfl (by kernel_rfl) trivial (q_move rfl) rfl (rdk_take 6 rfl (by kernel_rfl) trivial (q_ix_map ttOk rfl rfl rfl rfl (by omega)) rfl (rdk_take 7 rfl (by kernel_rfl) trivial (q_load ttOk rfl) rfl (rdk_one 8 (by kernel_rfl) (rdo_call (nm := 25) rfl trivial (cf rfl) (e_entry ⟨_, _, _, _, _, _, _, _, _⟩) (rs_of rfl) rfl rfl rfl (rdk_take 9 rfl (by kernel_rfl) trivial (q_not rfl) rfl (rdk_endq (by kernel_rfl) (et (ev_cond_n rfl (fun h3 => ?_) (fun h3 => ?_))))))))))))))))))))
     · try have d3 := of_decide_eq_false h3
       refine sq (rg (xs rfl rfl (nl (et (ev_ret (evr_blk (evr_then (evr_then (evr_blk (evr_then (ret_pure' ttOk rfl rfl (congrArg bR (?_ : _ = _)))))))))))))
       first | rfl | (exfalso; simp_all; done) | (exfalso; omega)
     · try have d3 := of_decide_eq_true h3
       refine ev_skip (eb (et (rg (xm rfl rfl (xa rfl rfl rfl (by omega) rfl (xs rfl rfl (nl (eve_round (k + 1) [] ?hp ⟨by (repeat first | exact trivial | refine ⟨rfl, ?_⟩), by (repeat first | exact trivial | refine ⟨rfl, ?_⟩), by (repeat first | exact trivial | refine ⟨⟨_, rfl, rfl⟩, ?_⟩), by (repeat first | exact trivial | refine ⟨⟨_, rfl, rfl⟩, ?_⟩), rfl⟩))))))))
       case hp => exact ⟨by omega, by omega⟩
   · try have d2 := of_decide_eq_false h2
     refine ev_exit (evx_then (evx_then (evx_hit (et (sq (rg (xs rfl rfl (nl (et (ev_ret (ret_pure' ttOk rfl rfl (congrArg bR (?_ : _ = _)))))))))))))
     first | rfl | (exfalso; simp_all; done) | (exfalso; omega)
theorem e_book (x : Book) : Pure Tryz.prog 28 [many (bookC x), many (bookC x)] (bR true) := by
 refine pure_intro (N := 21) Tryz.func28 rfl rfl rfl rfl (fun H w => ?_)
 refine sq (rg (evl_e (e_box rfl rfl rfl rfl) (evl_e (e_box rfl rfl rfl rfl) (xs rfl rfl (nl (et (sq (sq (rg (xf ttOk rfl rfl (xl ttOk rfl rfl (xf ttOk rfl rfl (xl ttOk rfl rfl (xb ttOk rfl rfl (nl (et (ev_cond rfl (fun h1 => ?_) (fun h1 => ?_))))))))))))))))))
 · try have d1 := of_decide_eq_true h1
   refine sq (rg (xs rfl rfl (nl (et (ev_ret (evr_then (ret_pure' ttOk rfl rfl (congrArg bR (?_ : _ = _)))))))))
   first | rfl | (exfalso; simp_all; done) | (exfalso; omega)
 · try have d1 := of_decide_eq_false h1
   refine ev_skip (et (sq (sq (rg (xf ttOk rfl rfl (xl ttOk rfl rfl (xf ttOk rfl rfl (xl ttOk rfl rfl (xb ttOk rfl rfl (nl (et (ev_cond rfl (fun h2 => ?_) (fun h2 => ?_)))))))))))))
   · try have d2 := of_decide_eq_true h2
     refine sq (rg (xs rfl rfl (nl (et (ev_ret (evr_then (ret_pure' ttOk rfl rfl (congrArg bR (?_ : _ = _)))))))))
     first | rfl | (exfalso; simp_all; done) | (exfalso; omega)
   · try have d2 := of_decide_eq_false h2
     refine ev_skip (et (sq (sq (rg (xf ttOk rfl rfl (xl ttOk rfl rfl (xf ttOk rfl rfl (xl ttOk rfl rfl (evl_call (nm := 19) (cf rfl) (e_entries _) (rs_of rfl) rfl rfl rfl (xo (q_not rfl) rfl (nl (et (ev_cond_n rfl (fun h3 => ?_) (fun h3 => ?_))))))))))))))
     · try have d3 := of_decide_eq_false h3
       refine sq (rg (xs rfl rfl (nl (et (ev_ret (evr_then (ret_pure' ttOk rfl rfl (congrArg bR (?_ : _ = _)))))))))
       first | rfl | (exfalso; simp_all; done) | (exfalso; omega)
     · try have d3 := of_decide_eq_true h3
       refine ev_skip (et (sq (rg (xs rfl rfl (nl (et (ev_ret (ret_pure' ttOk rfl rfl (congrArg bR (?_ : _ = _))))))))))
       first | rfl | (exfalso; simp_all; done) | (exfalso; omega)
theorem e_ack (m : Ack) : Pure Tryz.prog 133 [many (ackC m), many (ackC m)] (bR true) := by
 refine pure_intro (N := 25) Tryz.func133 rfl rfl rfl rfl (fun H w => ?_)
 refine sq (rg (evl_e (e_box rfl rfl rfl rfl) (evl_e (e_box rfl rfl rfl rfl) (xs rfl rfl (nl (et (sq (sq (rg (xf ttOk rfl rfl (xl ttOk rfl rfl (xf ttOk rfl rfl (xl ttOk rfl rfl (xb ttOk rfl rfl (nl (et (ev_cond rfl (fun h1 => ?_) (fun h1 => ?_))))))))))))))))))
 · try have d1 := of_decide_eq_true h1
   refine sq (rg (xs rfl rfl (nl (et (ev_ret (evr_then (ret_pure' ttOk rfl rfl (congrArg bR (?_ : _ = _)))))))))
   first | rfl | (exfalso; simp_all; done) | (exfalso; omega)
 · try have d1 := of_decide_eq_false h1
   refine ev_skip (et (sq (sq (rg (xf ttOk rfl rfl (xl ttOk rfl rfl (xf ttOk rfl rfl (xl ttOk rfl rfl (xb ttOk rfl rfl (nl (et (ev_cond rfl (fun h2 => ?_) (fun h2 => ?_)))))))))))))
   · try have d2 := of_decide_eq_true h2
     refine sq (rg (xs rfl rfl (nl (et (ev_ret (evr_then (ret_pure' ttOk rfl rfl (congrArg bR (?_ : _ = _)))))))))
     first | rfl | (exfalso; simp_all; done) | (exfalso; omega)
   · try have d2 := of_decide_eq_false h2
     refine ev_skip (et (sq (sq (rg (xf ttOk rfl rfl (xl ttOk rfl rfl (xf ttOk rfl rfl (xl ttOk rfl rfl (xb ttOk rfl rfl (nl (et (ev_cond rfl (fun h3 => ?_) (fun h3 => ?_)))))))))))))
     · try have d3 := of_decide_eq_true h3
       refine sq (rg (xs rfl rfl (nl (et (ev_ret (evr_then (ret_pure' ttOk rfl rfl (congrArg bR (?_ : _ = _)))))))))
       first | rfl | (exfalso; simp_all; done) | (exfalso; omega)
     · try have d3 := of_decide_eq_false h3
       refine ev_skip (et (sq (sq (rg (xf ttOk rfl rfl (xl ttOk rfl rfl (xf ttOk rfl rfl (xl ttOk rfl rfl (xb ttOk rfl rfl (nl (et (ev_cond rfl (fun h4 => ?_) (fun h4 => ?_)))))))))))))
       · try have d4 := of_decide_eq_true h4
         refine sq (rg (xs rfl rfl (nl (et (ev_ret (evr_then (ret_pure' ttOk rfl rfl (congrArg bR (?_ : _ = _)))))))))
         first | rfl | (exfalso; simp_all; done) | (exfalso; omega)
       · try have d4 := of_decide_eq_false h4
         refine ev_skip (et (sq (rg (xs rfl rfl (nl (et (ev_ret (ret_pure' ttOk rfl rfl (congrArg bR (?_ : _ = _))))))))))
         first | rfl | (exfalso; simp_all; done) | (exfalso; omega)
theorem e_acks (l : List Ack) : Pure Tryz.prog 56 [one (acks l), one (acks l)] (bR true) := by
 refine pure_intro (N := 27) Tryz.func56 rfl rfl rfl rfl (fun H w => ?_)
 refine ev_lenm (t := 0) rfl (fun hL => ?_)
 refine ev_lenm (t := 1) rfl (fun hM => ?_)
 refine sq (rg (xs rfl rfl (nl (et (sq (sq (rg (xm rfl rfl (xo (q_len_map ttOk rfl rfl) rfl (xm rfl rfl (xo (q_len_map ttOk rfl rfl) rfl (xb ttOk rfl rfl (nl (et (ev_cond rfl (fun h1 => ?_) (fun h1 => ?_))))))))))))))))
 · try have d1 := of_decide_eq_true h1
   refine sq (rg (xs rfl rfl (nl (et (ev_ret (evr_then (ret_pure' ttOk rfl rfl (congrArg bR (?_ : _ = _)))))))))
   first | rfl | (exfalso; simp_all; done) | (exfalso; omega)
 · try have d1 := of_decide_eq_false h1
   refine ev_skip (et (sq (sq (rg (xs rfl rfl (nl (et (ev_blk (ev_loop (fun k : Nat => (⟨[(5, iV k), (0, cV (acks l)), (1, cV (acks l))], [], [], []⟩ : St)) (fun k => k ≤ l.length) (fun k => l.length - k) 0 [] (by simp) ⟨by (repeat first | exact trivial | refine ⟨rfl, ?_⟩), by (repeat first | exact trivial | refine ⟨rfl, ?_⟩), by (repeat first | exact trivial | refine ⟨⟨_, rfl, rfl⟩, ?_⟩), by (repeat first | exact trivial | refine ⟨⟨_, rfl, rfl⟩, ?_⟩), rfl⟩ ?_)))))))))
   intro k hp
   have p0 := hp
   show Ev _ _ _ _ (⟨[(5, iV k), (0, cV (acks l)), (1, cV (acks l))], [], [], []⟩ : St)
   refine sq (sq (rg (xm rfl rfl (xm rfl rfl (xo (q_len_map ttOk rfl rfl) rfl (xb ttOk rfl rfl (nl (et (ev_cond rfl (fun h2 => ?_) (fun h2 => ?_))))))))))
   · try have d2 := of_decide_eq_true h2
     refine ev_skip (et (sq (ev_blk (sq (ev_drawq [] mo (rdk_take 0 rfl (by kernel_rfl) trivial (q_move rfl) rfl (rdk_take 1 rfl (by kernel_rfl) trivial (q_move rfl) rfl (rdk_take 2 rfl (by kernel_rfl) trivial (q_ix_map ttOk rfl rfl rfl rfl (by omega)) rfl (rdk_take 3 rfl (by kernel_rfl) trivial (q_load ttOk rfl) rfl (rdk_take 4 rfl (by kernel_rfl) trivial (q_move rfl) rfl (rdk_take 5 rfl (by kernel_rfl) trivial (q_move rfl) rfl (rdk_take 6 rfl (by kernel_rfl) trivial (q_ix_map ttOk rfl rfl rfl rfl (by omega)) rfl (rdk_take 7 rfl (by kernel_rfl) trivial (q_load ttOk rfl) rfl (rdk_one 8 (by kernel_rfl) (rdo_call (nm := 25) rfl trivial (cf rfl) (e_ack ⟨_, _, _, _⟩) (rs_of rfl) rfl rfl rfl (rdk_take 9 rfl (by kernel_rfl) trivial (q_not rfl) rfl (rdk_endq (by kernel_rfl) (et (ev_cond_n rfl (fun h3 => ?_) (fun h3 => ?_))))))))))))))))))))
     · try have d3 := of_decide_eq_false h3
       refine sq (rg (xs rfl rfl (nl (et (ev_ret (evr_blk (evr_then (evr_then (evr_blk (evr_then (ret_pure' ttOk rfl rfl (congrArg bR (?_ : _ = _)))))))))))))
       first | rfl | (exfalso; simp_all; done) | (exfalso; omega)
     · try have d3 := of_decide_eq_true h3
       refine ev_skip (eb (et (rg (xm rfl rfl (xa rfl rfl rfl (by omega) rfl (xs rfl rfl (nl (eve_round (k + 1) [] ?hp ⟨by (repeat first | exact trivial | refine ⟨rfl, ?_⟩), by (repeat first | exact trivial | refine ⟨rfl, ?_⟩), by (repeat first | exact trivial | refine ⟨⟨_, rfl, rfl⟩, ?_⟩), by (repeat first | exact trivial | refine ⟨⟨_, rfl, rfl⟩, ?_⟩), rfl⟩))))))))
       case hp => exact ⟨by omega, by omega⟩
   · try have d2 := of_decide_eq_false h2
     refine ev_exit (evx_then (evx_then (evx_hit (et (sq (rg (xs rfl rfl (nl (et (ev_ret (ret_pure' ttOk rfl rfl (congrArg bR (?_ : _ = _)))))))))))))
     first | rfl | (exfalso; simp_all; done) | (exfalso; omega)
theorem e_log (n : LogN) : Pure Tryz.prog 15 [many (logC n), many (logC n)] (bR true) := by
 refine pure_intro (N := 51) Tryz.func15 rfl rfl rfl rfl (fun H w => ?_)
 refine sq (rg (evl_e (e_box rfl rfl rfl rfl) (evl_e (e_box rfl rfl rfl rfl) (xs rfl rfl (nl (et (sq (sq (rg (xf ttOk rfl rfl (xl ttOk rfl rfl (xf ttOk rfl rfl (xl ttOk rfl rfl (evl_call (nm := 9) (cf rfl) (e_two ⟨⟨_, _⟩, ⟨_, _⟩⟩) (rs_of rfl) rfl rfl rfl (xo (q_not rfl) rfl (nl (et (ev_cond_n rfl (fun h1 => ?_) (fun h1 => ?_)))))))))))))))))))
 · try have d1 := of_decide_eq_false h1
   refine sq (rg (xs rfl rfl (nl (et (ev_ret (evr_then (ret_pure' ttOk rfl rfl (congrArg bR (?_ : _ = _)))))))))
   first | rfl | (exfalso; simp_all; done) | (exfalso; omega)
 · try have d1 := of_decide_eq_true h1
   refine ev_skip (et (sq (sq (rg (xf ttOk rfl rfl (xl ttOk rfl rfl (xf ttOk rfl rfl (xl ttOk rfl rfl (evl_call (nm := 15) (cf rfl) (e_head ⟨_, _, _, _⟩) (rs_of rfl) rfl rfl rfl (xo (q_not rfl) rfl (nl (et (ev_cond_n rfl (fun h2 => ?_) (fun h2 => ?_))))))))))))))
   · try have d2 := of_decide_eq_false h2
     refine sq (rg (xs rfl rfl (nl (et (ev_ret (evr_then (ret_pure' ttOk rfl rfl (congrArg bR (?_ : _ = _)))))))))
     first | rfl | (exfalso; simp_all; done) | (exfalso; omega)
   · try have d2 := of_decide_eq_true h2
     refine ev_skip (et (sq (sq (rg (xf ttOk rfl rfl (xl ttOk rfl rfl (xf ttOk rfl rfl (xl ttOk rfl rfl (evl_call (nm := 21) (cf rfl) (e_head ⟨_, _, _, _⟩) (rs_of rfl) rfl rfl rfl (xo (q_not rfl) rfl (nl (et (ev_cond_n rfl (fun h3 => ?_) (fun h3 => ?_))))))))))))))
     · try have d3 := of_decide_eq_false h3
       refine sq (rg (xs rfl rfl (nl (et (ev_ret (evr_then (ret_pure' ttOk rfl rfl (congrArg bR (?_ : _ = _)))))))))
       first | rfl | (exfalso; simp_all; done) | (exfalso; omega)
     · try have d3 := of_decide_eq_true h3
       refine ev_skip (et (sq (sq (rg (xf ttOk rfl rfl (xl ttOk rfl rfl (xf ttOk rfl rfl (xl ttOk rfl rfl (xb ttOk rfl rfl (nl (et (ev_cond rfl (fun h4 => ?_) (fun h4 => ?_)))))))))))))
       · try have d4 := of_decide_eq_true h4
         refine ev_pr [2, 3, 4, 28, 29, 30, 31, 32, 33, 34, 35, 36, 37, 38, 39, 40, 41, 42, 43, 44, 45, 46, 47, 48, 49, 50] rfl (sq (rg (xs rfl rfl (nl (et (ev_ret (evr_then (ret_pure' ttOk rfl rfl (congrArg bR (?_ : _ = _))))))))))
         first | rfl | (exfalso; simp_all; done) | (exfalso; omega)
       · try have d4 := of_decide_eq_false h4
         refine ev_skip (et (ev_pr [2, 3, 4, 28, 29, 30, 31, 32, 33, 34, 35, 36, 37, 38, 39, 40, 41, 42, 43, 44, 45, 46, 47, 48, 49, 50] rfl (sq (sq (rg (xf ttOk rfl rfl (xl ttOk rfl rfl (xf ttOk rfl rfl (xl ttOk rfl rfl (evl_call (nm := 32) (cf rfl) (e_book ⟨_, _, _⟩) (rs_of rfl) rfl rfl rfl (xo (q_not rfl) rfl (nl (et (ev_cond_n rfl (fun h5 => ?_) (fun h5 => ?_)))))))))))))))
         · try have d5 := of_decide_eq_false h5
           refine sq (rg (xs rfl rfl (nl (et (ev_ret (evr_then (ret_pure' ttOk rfl rfl (congrArg bR (?_ : _ = _)))))))))
           first | rfl | (exfalso; simp_all; done) | (exfalso; omega)
         · try have d5 := of_decide_eq_true h5
           refine ev_skip (et (sq (sq (rg (xf ttOk rfl rfl (xl ttOk rfl rfl (xf ttOk rfl rfl (xl ttOk rfl rfl (evl_call (nm := 38) (cf rfl) (e_marks _) (rs_of rfl) rfl rfl rfl (xo (q_not rfl) rfl (nl (et (ev_cond_n rfl (fun h6 => ?_) (fun h6 => ?_))))))))))))))
           · try have d6 := of_decide_eq_false h6
             refine sq (rg (xs rfl rfl (nl (et (ev_ret (evr_then (ret_pure' ttOk rfl rfl (congrArg bR (?_ : _ = _)))))))))
             first | rfl | (exfalso; simp_all; done) | (exfalso; omega)
           · try have d6 := of_decide_eq_true h6
             refine ev_skip (et (sq (sq (rg (xf ttOk rfl rfl (xl ttOk rfl rfl (xf ttOk rfl rfl (xl ttOk rfl rfl (xb ttOk rfl rfl (nl (et (ev_cond rfl (fun h7 => ?_) (fun h7 => ?_)))))))))))))
             · try have d7 := of_decide_eq_true h7
               refine sq (rg (xs rfl rfl (nl (et (ev_ret (evr_then (ret_pure' ttOk rfl rfl (congrArg bR (?_ : _ = _)))))))))
               first | rfl | (exfalso; simp_all; done) | (exfalso; omega)
             · try have d7 := of_decide_eq_false h7
               refine ev_skip (et (sq (sq (rg (xf ttOk rfl rfl (xl ttOk rfl rfl (xf ttOk rfl rfl (xl ttOk rfl rfl (evl_call (nm := 49) (cf rfl) (e_acks _) (rs_of rfl) rfl rfl rfl (xo (q_not rfl) rfl (nl (et (ev_cond_n rfl (fun h8 => ?_) (fun h8 => ?_))))))))))))))
               · try have d8 := of_decide_eq_false h8
                 refine sq (rg (xs rfl rfl (nl (et (ev_ret (evr_then (ret_pure' ttOk rfl rfl (congrArg bR (?_ : _ = _)))))))))
                 first | rfl | (exfalso; simp_all; done) | (exfalso; omega)
               · try have d8 := of_decide_eq_true h8
                 refine ev_skip (et (sq (rg (xs rfl rfl (nl (et (ev_ret (ret_pure' ttOk rfl rfl (congrArg bR (?_ : _ = _))))))))))
                 first | rfl | (exfalso; simp_all; done) | (exfalso; omega)

end Go.Proofs.YtpbhcdgdabfhfaaGreat
namespace Go.Proofs.YtpbhcdgdabfhfaaGreat
open Go.ChangeShapes Go.WideShapes Go.ChangeAt Go.RowKit
set_option linter.unusedVariables false
set_option linter.unusedSimpArgs false
set_option maxHeartbeats 1000000
set_option maxRecDepth 100000
attribute [local irreducible] EvL Ev EvE Quiet Eff Pure RDk RDb RDo
def eqHd (a b : Head) : Bool := decide (a.num = b.num) && (decide (a.base = b.base) && (decide (a.time = b.time) && eqN Mark.nums a.seen b.seen))
theorem c_l12SameHead (x y : Head) : Pure Tryz.prog 79 [many (headC x), many (headC y)] (bR (eqHd x y)) := by
 refine pure_intro (N := 31) Tryz.func79 rfl rfl rfl rfl (fun H w => ?_)
 refine sq (rg (evl_e (e_box rfl rfl rfl rfl) (evl_e (e_box rfl rfl rfl rfl) (xs rfl rfl (nl (et (sq (rg (xf ttOk rfl rfl (xl ttOk rfl rfl (xf ttOk rfl rfl (xl ttOk rfl rfl (xb ttOk rfl rfl (xm rfl rfl (evl_part rfl rfl (fun h1 => ?_) (fun h1 => ?_))))))))))))))))
 · refine go h1 rfl rfl (q_fieldAddr ttOk rfl) rfl (go h1 rfl rfl (q_load ttOk rfl) rfl (go h1 rfl rfl (q_fieldAddr ttOk rfl) rfl (go h1 rfl rfl (q_load ttOk rfl) rfl (go h1 rfl rfl (q_bin ttOk rfl) rfl (xo (q_pick_t rfl h1 rfl) rfl (xm rfl rfl (evl_part rfl rfl (fun h2 => ?_) (fun h2 => ?_))))))))
   · refine go h2 rfl rfl (q_fieldAddr ttOk rfl) rfl (go h2 rfl rfl (q_load ttOk rfl) rfl (go h2 rfl rfl (q_fieldAddr ttOk rfl) rfl (go h2 rfl rfl (q_load ttOk rfl) rfl (go h2 rfl rfl (q_bin ttOk rfl) rfl (xo (q_pick_t rfl h2 rfl) rfl (xm rfl rfl (evl_part rfl rfl (fun h3 => ?_) (fun h3 => ?_))))))))
     · refine go h3 rfl rfl (q_fieldAddr ttOk rfl) rfl (go h3 rfl rfl (q_load ttOk rfl) rfl (go h3 rfl rfl (q_fieldAddr ttOk rfl) rfl (go h3 rfl rfl (q_load ttOk rfl) rfl (evl_callg rfl rfl h3 (nm := 29) (cf rfl) (c_SameSeen _ _) (rs_of rfl) rfl rfl rfl (xo (q_pick_t rfl h3 rfl) rfl (xs rfl rfl (nl (et (ev_ret (ret_pure' ttOk rfl rfl (congrArg bR (?_ : _ = _))))))))))))
       simp_all [eqHd]
     · refine gn h3 rfl rfl rfl (gn h3 rfl rfl rfl (gn h3 rfl rfl rfl (gn h3 rfl rfl rfl (gn h3 rfl rfl rfl (xo (q_pick_f rfl h3 rfl) rfl (xs rfl rfl (nl (et (ev_ret (ret_pure' ttOk rfl rfl (congrArg bR (?_ : _ = _))))))))))))
       simp_all [eqHd]
   · refine gn h2 rfl rfl rfl (gn h2 rfl rfl rfl (gn h2 rfl rfl rfl (gn h2 rfl rfl rfl (gn h2 rfl rfl rfl (xo (q_pick_f rfl h2 rfl) rfl (xm rfl rfl (gn rfl rfl rfl rfl (gn rfl rfl rfl rfl (gn rfl rfl rfl rfl (gn rfl rfl rfl rfl (gn rfl rfl rfl rfl (xo (q_pick_f rfl rfl rfl) rfl (xs rfl rfl (nl (et (ev_ret (ret_pure' ttOk rfl rfl (congrArg bR (?_ : _ = _)))))))))))))))))))
     simp_all [eqHd]
 · refine gn h1 rfl rfl rfl (gn h1 rfl rfl rfl (gn h1 rfl rfl rfl (gn h1 rfl rfl rfl (gn h1 rfl rfl rfl (xo (q_pick_f rfl h1 rfl) rfl (xm rfl rfl (gn rfl rfl rfl rfl (gn rfl rfl rfl rfl (gn rfl rfl rfl rfl (gn rfl rfl rfl rfl (gn rfl rfl rfl rfl (xo (q_pick_f rfl rfl rfl) rfl (xm rfl rfl (gn rfl rfl rfl rfl (gn rfl rfl rfl rfl (gn rfl rfl rfl rfl (gn rfl rfl rfl rfl (gn rfl rfl rfl rfl (xo (q_pick_f rfl rfl rfl) rfl (xs rfl rfl (nl (et (ev_ret (ret_pure' ttOk rfl rfl (congrArg bR (?_ : _ = _))))))))))))))))))))))))))
   simp_all [eqHd]
theorem c_sameHead (x y : Head) : Pure Tryz.prog 160 [many (headC x), many (headC y)] (bR (eqHd x y)) := by
 refine pure_intro (N := 31) Tryz.func160 rfl rfl rfl rfl (fun H w => ?_)
 refine sq (rg (evl_e (e_box rfl rfl rfl rfl) (evl_e (e_box rfl rfl rfl rfl) (xs rfl rfl (nl (et (sq (rg (xf ttOk rfl rfl (xl ttOk rfl rfl (xf ttOk rfl rfl (xl ttOk rfl rfl (xb ttOk rfl rfl (xm rfl rfl (evl_part rfl rfl (fun h1 => ?_) (fun h1 => ?_))))))))))))))))
 · refine go h1 rfl rfl (q_fieldAddr ttOk rfl) rfl (go h1 rfl rfl (q_load ttOk rfl) rfl (go h1 rfl rfl (q_fieldAddr ttOk rfl) rfl (go h1 rfl rfl (q_load ttOk rfl) rfl (go h1 rfl rfl (q_bin ttOk rfl) rfl (xo (q_pick_t rfl h1 rfl) rfl (xm rfl rfl (evl_part rfl rfl (fun h2 => ?_) (fun h2 => ?_))))))))
   · refine go h2 rfl rfl (q_fieldAddr ttOk rfl) rfl (go h2 rfl rfl (q_load ttOk rfl) rfl (go h2 rfl rfl (q_fieldAddr ttOk rfl) rfl (go h2 rfl rfl (q_load ttOk rfl) rfl (go h2 rfl rfl (q_bin ttOk rfl) rfl (xo (q_pick_t rfl h2 rfl) rfl (xm rfl rfl (evl_part rfl rfl (fun h3 => ?_) (fun h3 => ?_))))))))
     · refine go h3 rfl rfl (q_fieldAddr ttOk rfl) rfl (go h3 rfl rfl (q_load ttOk rfl) rfl (go h3 rfl rfl (q_fieldAddr ttOk rfl) rfl (go h3 rfl rfl (q_load ttOk rfl) rfl (evl_callg rfl rfl h3 (nm := 29) (cf rfl) (c_SameSeen' _ _) (rs_of rfl) rfl rfl rfl (xo (q_pick_t rfl h3 rfl) rfl (xs rfl rfl (nl (et (ev_ret (ret_pure' ttOk rfl rfl (congrArg bR (?_ : _ = _))))))))))))
       simp_all [eqHd]
     · refine gn h3 rfl rfl rfl (gn h3 rfl rfl rfl (gn h3 rfl rfl rfl (gn h3 rfl rfl rfl (gn h3 rfl rfl rfl (xo (q_pick_f rfl h3 rfl) rfl (xs rfl rfl (nl (et (ev_ret (ret_pure' ttOk rfl rfl (congrArg bR (?_ : _ = _))))))))))))
       simp_all [eqHd]
   · refine gn h2 rfl rfl rfl (gn h2 rfl rfl rfl (gn h2 rfl rfl rfl (gn h2 rfl rfl rfl (gn h2 rfl rfl rfl (xo (q_pick_f rfl h2 rfl) rfl (xm rfl rfl (gn rfl rfl rfl rfl (gn rfl rfl rfl rfl (gn rfl rfl rfl rfl (gn rfl rfl rfl rfl (gn rfl rfl rfl rfl (xo (q_pick_f rfl rfl rfl) rfl (xs rfl rfl (nl (et (ev_ret (ret_pure' ttOk rfl rfl (congrArg bR (?_ : _ = _)))))))))))))))))))
     simp_all [eqHd]
 · refine gn h1 rfl rfl rfl (gn h1 rfl rfl rfl (gn h1 rfl rfl rfl (gn h1 rfl rfl rfl (gn h1 rfl rfl rfl (xo (q_pick_f rfl h1 rfl) rfl (xm rfl rfl (gn rfl rfl rfl rfl (gn rfl rfl rfl rfl (gn rfl rfl rfl rfl (gn rfl rfl rfl rfl (gn rfl rfl rfl rfl (xo (q_pick_f rfl rfl rfl) rfl (xm rfl rfl (gn rfl rfl rfl rfl (gn rfl rfl rfl rfl (gn rfl rfl rfl rfl (gn rfl rfl rfl rfl (gn rfl rfl rfl rfl (xo (q_pick_f rfl rfl rfl) rfl (xs rfl rfl (nl (et (ev_ret (ret_pure' ttOk rfl rfl (congrArg bR (?_ : _ = _))))))))))))))))))))))))))
   simp_all [eqHd]

end Go.Proofs.YtpbhcdgdabfhfaaGreat
namespace Go.Proofs.YtpbhcdgdabfhfaaGreat
open Go.ChangeShapes Go.WideShapes Go.ChangeAt Go.RowKit
set_option linter.unusedVariables false
set_option linter.unusedSimpArgs false
set_option maxHeartbeats 1000000
set_option maxRecDepth 100000
attribute [local irreducible] EvL Ev EvE Quiet Eff Pure RDk RDb RDo
@[reducible] def wF (x : Int × List Int) : List C := [iC x.1, ints x.2]
@[reducible] def wH (x : Int × List Int) : List C := [iC x.1, .hole]
end Go.Proofs.YtpbhcdgdabfhfaaGreat
