/- Walks of functions of the program, printed by a program of the prover. -/
import Derived.Test.YtpbhcdgdabfhfaaGreatLoF4
namespace Go.Proofs.YtpbhcdgdabfhfaaGreat
open Go.ChangeShapes Go.WideShapes Go.ChangeAt Go.RowKit
set_option linter.unusedVariables false
set_option linter.unusedSimpArgs false
set_option maxHeartbeats 1000000
set_option maxRecDepth 100000
attribute [local irreducible] EvL Ev EvE Quiet Eff Pure RDk RDb RDo
structure Disk where
  kept : List (List Int)
  wait : List (Int × List Int)
structure Two where
  a : Disk
  b : Disk
@[reducible] def rows (l : List (List Int)) : C := .s 1 (l.map fun r => [ints r])
@[reducible] def writes (l : List (Int × List Int)) : C := .s 2 (l.map fun x => [iC x.1, ints x.2])
@[reducible] def diskC (d : Disk) : List C := [rows d.kept, writes d.wait]
@[reducible] def twoC (t : Two) : List C := [rows t.a.kept, writes t.a.wait, rows t.b.kept, writes t.b.wait]
@[reducible] def pbV (b o : Nat) : AV := .p false [.pb b o]
def hasAt (d : Disk) (x : Int) : Bool := inB x 0 (d.kept.length - 1)
def writeOk (d : Disk) (x : Int × List Int) : Bool := hasAt d x.1 && rowOk x.2
def diskOk (d : Disk) : Bool := decide (1 ≤ d.kept.length) && (decide (d.kept.length ≤ 40) && (decide (d.wait.length ≤ 60) && (d.kept.all rowOk && d.wait.all (writeOk d))))
def twoOk (t : Two) : Bool := diskOk t.a && (diskOk t.b && decide (t.a.kept.length = t.b.kept.length))
def keptOk (t : Two) : Bool := twoOk t && decide (t.a.kept.length = 22)
theorem writeOk_no1 {d : Disk} {x : Int × List Int} (h : hasAt d x.1 = false) : writeOk d x = false := by simp [writeOk, h]
theorem writeOk_no2 {d : Disk} {x : Int × List Int} (h : rowOk x.2 = false) : writeOk d x = false := by simp [writeOk, h]
theorem writeOk_yes {d : Disk} {x : Int × List Int} (h : hasAt d x.1 = true) (h2 : rowOk x.2 = true) : writeOk d x = true := by simp [writeOk, h, h2]
theorem c_l3Has (d : Disk) (x : Int) : Pure Tryz.prog 219 [many (diskC d), one (iC x)] (bR (hasAt d x)) := by
 refine pure_intro (N := 11) Tryz.func219 rfl rfl rfl rfl (fun H w => ?_)
 refine ev_lena 0 (t := 0) rfl rfl (fun hL => ?_)
 refine sq (rg (evl_e (e_box rfl rfl rfl rfl) (xs rfl rfl (nl (et (sq (rg (xm rfl rfl (xf ttOk rfl rfl (xl ttOk rfl rfl (xo (q_len_map ttOk rfl rfl) rfl (xa rfl rfl rfl (by omega) rfl (evl_call (nm := 10) (cf rfl) (c_l1In _ _ _) (rs_of rfl) rfl rfl rfl (xs rfl rfl (nl (et (ev_ret (ret_pure' ttOk rfl rfl ?_))))))))))))))))))
 rfl
theorem c_sectorOk (d : Disk) (x : Int) : Pure Tryz.prog 226 [many (diskC d), one (iC x)] (bR (hasAt d x)) := by
 refine pure_intro (N := 11) Tryz.func226 rfl rfl rfl rfl (fun H w => ?_)
 refine ev_lena 0 (t := 0) rfl rfl (fun hL => ?_)
 refine sq (rg (evl_e (e_box rfl rfl rfl rfl) (xs rfl rfl (nl (et (sq (rg (xm rfl rfl (xf ttOk rfl rfl (xl ttOk rfl rfl (xo (q_len_map ttOk rfl rfl) rfl (xa rfl rfl rfl (by omega) rfl (evl_call (nm := 10) (cf rfl) (c_between _ _ _) (rs_of rfl) rfl rfl rfl (xs rfl rfl (nl (et (ev_ret (ret_pure' ttOk rfl rfl ?_))))))))))))))))))
 rfl
theorem c_DiskOk (d : Disk) : Pure Tryz.prog 206 [many (diskC d)] (bR (diskOk d)) := by
 refine pure_intro (N := 61) Tryz.func206 rfl rfl rfl rfl (fun H w => ?_)
 refine sq (rg (evl_e (e_box rfl rfl rfl rfl) (xs rfl rfl (nl (et (sq (sq (rg (xf ttOk rfl rfl (xl ttOk rfl rfl (xo (q_len_map ttOk rfl rfl) rfl (xb ttOk rfl rfl (xm rfl rfl (evl_part rfl rfl (fun h1 => ?_) (fun h1 => ?_)))))))))))))))
 · have d1 := of_decide_eq_true h1
   refine gn h1 rfl rfl rfl (gn h1 rfl rfl rfl (gn h1 rfl rfl rfl (gn h1 rfl rfl rfl (xo (q_pick_t rfl h1 rfl) rfl (xm rfl rfl (gn rfl rfl rfl rfl (gn rfl rfl rfl rfl (gn rfl rfl rfl rfl (gn rfl rfl rfl rfl (xo (q_pick_t rfl rfl rfl) rfl (nl (et (ev_cond_kt rfl rfl (sq (rg (xs rfl rfl (nl (et (ev_ret (evr_then (ret_pure' ttOk rfl rfl (congrArg bR (?_ : _ = _)))))))))))))))))))))))
   have : ¬ 1 ≤ d.kept.length := by omega
   simp [diskOk, this]
 · have d1 := of_decide_eq_false h1
   refine go h1 rfl rfl (q_fieldAddr ttOk rfl) rfl (go h1 rfl rfl (q_load ttOk rfl) rfl (go h1 rfl rfl (q_len_map ttOk rfl rfl) rfl (go h1 rfl rfl (q_bin ttOk rfl) rfl (xo (q_pick_f rfl h1 rfl) rfl (xm rfl rfl (evl_part rfl rfl (fun h2 => ?_) (fun h2 => ?_)))))))
   · have d2 := of_decide_eq_true h2
     refine gn h2 rfl rfl rfl (gn h2 rfl rfl rfl (gn h2 rfl rfl rfl (gn h2 rfl rfl rfl (xo (q_pick_t rfl h2 rfl) rfl (nl (et (ev_cond_kt rfl rfl (sq (rg (xs rfl rfl (nl (et (ev_ret (evr_then (ret_pure' ttOk rfl rfl (congrArg bR (?_ : _ = _)))))))))))))))))
     have : ¬ d.kept.length ≤ 40 := by omega
     simp [diskOk, this]
   · have d2 := of_decide_eq_false h2
     refine go h2 rfl rfl (q_fieldAddr ttOk rfl) rfl (go h2 rfl rfl (q_load ttOk rfl) rfl (go h2 rfl rfl (q_len_map ttOk rfl rfl) rfl (go h2 rfl rfl (q_bin ttOk rfl) rfl (xo (q_pick_f rfl h2 rfl) rfl (nl (et (ev_cond rfl (fun h3 => ?_) (fun h3 => ?_))))))))
     · have d3 := of_decide_eq_true h3
       refine sq (rg (xs rfl rfl (nl (et (ev_ret (evr_then (ret_pure' ttOk rfl rfl (congrArg bR (?_ : _ = _)))))))))
       have : ¬ d.wait.length ≤ 60 := by omega
       simp [diskOk, this]
     · have d3 := of_decide_eq_false h3
       refine ev_skip (et (sq (sq (rg (xs rfl rfl (nl (et (ev_blk (ev_loop (fun k : Nat => (⟨[(3, iV k), (1, pbV 1 0)], [(1, 25, [.c (rows d.kept), .c (writes d.wait)])], [], []⟩ : St)) (fun k => k ≤ d.kept.length ∧ ∀ x ∈ d.kept.take k, rowOk x = true) (fun k => d.kept.length - k) 0 [] (⟨by simp, by simp⟩) ⟨by (repeat first | exact trivial | refine ⟨rfl, ?_⟩), by (repeat first | exact trivial | refine ⟨rfl, ?_⟩), by (repeat first | exact trivial | refine ⟨⟨_, rfl, rfl⟩, ?_⟩), by (repeat first | exact trivial | refine ⟨⟨_, rfl, rfl⟩, ?_⟩), rfl⟩ ?_)))))))))
       intro k hp
       obtain ⟨p0, p1⟩ := hp
       show Ev _ _ _ _ (⟨[(3, iV k), (1, pbV 1 0)], [(1, 25, [.c (rows d.kept), .c (writes d.wait)])], [], []⟩ : St)
       refine sq (sq (rg (xm rfl rfl (xf ttOk rfl rfl (xl ttOk rfl rfl (xo (q_len_map ttOk rfl rfl) rfl (xb ttOk rfl rfl (nl (et (ev_cond rfl (fun h4 => ?_) (fun h4 => ?_)))))))))))
       · have d4 := of_decide_eq_true h4
         refine ev_skip (et (sq (ev_blk (sq (rg (xf ttOk rfl rfl (xl ttOk rfl rfl (xm rfl rfl (xo (q_ix_map ttOk rfl rfl rfl rfl (by omega)) rfl (xl ttOk rfl rfl (evl_call (nm := 33) (cf rfl) (c_RowOk _) (rs_of rfl) rfl rfl rfl (xo (q_not rfl) rfl (nl (et (ev_cond_n rfl (fun h5 => ?_) (fun h5 => ?_))))))))))))))))
         · refine sq (rg (xs rfl rfl (nl (et (ev_ret (evr_blk (evr_then (evr_then (evr_blk (evr_then (ret_pure' ttOk rfl rfl (congrArg bR (?_ : _ = _)))))))))))))
           simp [diskOk, all_not (f := rowOk) (k := k) (by omega) h5]
         · refine ev_skip (eb (et (rg (xm rfl rfl (xa rfl rfl rfl (by omega) rfl (xs rfl rfl (nl (eve_round (k + 1) [] ?hp ⟨by (repeat first | exact trivial | refine ⟨rfl, ?_⟩), by (repeat first | exact trivial | refine ⟨rfl, ?_⟩), by (repeat first | exact trivial | refine ⟨⟨_, rfl, rfl⟩, ?_⟩), by (repeat first | exact trivial | refine ⟨⟨_, rfl, rfl⟩, ?_⟩), rfl⟩))))))))
           case hp => exact ⟨⟨by omega, all_take (by omega) p1 h5⟩, by omega⟩
       · have d4 := of_decide_eq_false h4
         refine ev_exit (evx_then (evx_then (evx_hit (et (sq (sq (rg (xs rfl rfl (nl (et (ev_blk (ev_loop (fun j : Nat => (⟨[(4, iV j), (1, pbV 1 0)], [(1, 25, [.c (rows d.kept), .c (writes d.wait)])], [], []⟩ : St)) (fun j => j ≤ d.wait.length ∧ ∀ x ∈ d.wait.take j, writeOk d x = true) (fun j => d.wait.length - j) 0 [] (⟨by simp, by simp⟩) ⟨by (repeat first | exact trivial | refine ⟨rfl, ?_⟩), by (repeat first | exact trivial | refine ⟨rfl, ?_⟩), by (repeat first | exact trivial | refine ⟨⟨_, rfl, rfl⟩, ?_⟩), by (repeat first | exact trivial | refine ⟨⟨_, rfl, rfl⟩, ?_⟩), rfl⟩ ?_))))))))))))
         intro j hp
         obtain ⟨q0, q1⟩ := hp
         show Ev _ _ _ _ (⟨[(4, iV j), (1, pbV 1 0)], [(1, 25, [.c (rows d.kept), .c (writes d.wait)])], [], []⟩ : St)
         refine sq (sq (rg (xm rfl rfl (xf ttOk rfl rfl (xl ttOk rfl rfl (xo (q_len_map ttOk rfl rfl) rfl (xb ttOk rfl rfl (nl (et (ev_cond rfl (fun h6 => ?_) (fun h6 => ?_)))))))))))
         · have d6 := of_decide_eq_true h6
           refine ev_skip (et (sq (ev_blk (sq (ev_drawq [] mo (rdk_take 0 rfl (by kernel_rfl) trivial (q_load ttOk rfl) rfl (rdk_take 1 rfl (by kernel_rfl) trivial (q_fieldAddr ttOk rfl) rfl (rdk_take 2 rfl (by kernel_rfl) trivial (q_load ttOk rfl) rfl (rdk_take 3 rfl (by kernel_rfl) trivial (q_move rfl) rfl (rdk_take 4 rfl (by kernel_rfl) trivial (q_ix_map ttOk rfl rfl rfl rfl (by omega)) rfl (rdk_take 5 rfl (by kernel_rfl) trivial (q_fieldAddr ttOk rfl) rfl (rdk_take 6 rfl (by kernel_rfl) trivial (q_load ttOk rfl) rfl (rdk_one 7 (by kernel_rfl) (rdo_call (nm := 49) rfl trivial (cf rfl) (c_l3Has _ _) (rs_of rfl) rfl rfl rfl (rdk_take 8 rfl (by kernel_rfl) trivial (q_not rfl) rfl (rdk_take 9 rfl (by kernel_rfl) trivial (q_move rfl) rfl (rdk_partn (t := 51) rfl (fun h7 => ?_) (fun h7 => ?_))))))))))))))))))
           · refine rdk_skip 10 rfl (by kernel_rfl) ⟨_, rfl, .inl ⟨_, rfl, (nt h7)⟩⟩ rfl (rdk_skip 11 rfl (by kernel_rfl) ⟨_, rfl, .inl ⟨_, rfl, (nt h7)⟩⟩ rfl (rdk_skip 12 rfl (by kernel_rfl) ⟨_, rfl, .inl ⟨_, rfl, (nt h7)⟩⟩ rfl (rdk_skip 13 rfl (by kernel_rfl) ⟨_, rfl, .inl ⟨_, rfl, (nt h7)⟩⟩ rfl (rdk_skip 14 rfl (by kernel_rfl) ⟨_, rfl, .inl ⟨_, rfl, (nt h7)⟩⟩ rfl (rdk_skip 15 rfl (by kernel_rfl) ⟨_, rfl, .inl ⟨_, rfl, (nt h7)⟩⟩ rfl (rdk_skip 16 rfl (by kernel_rfl) ⟨_, rfl, .inl ⟨_, rfl, (nt h7)⟩⟩ rfl (rdk_skip 17 rfl (by kernel_rfl) ⟨_, rfl, .inl ⟨_, rfl, (nt h7)⟩⟩ rfl (rdk_take 18 rfl (by kernel_rfl) trivial (q_pick_t rfl (nt h7) rfl) rfl (rdk_endq (by kernel_rfl) (et (ev_cond_kt rfl rfl (sq (rg (xs rfl rfl (nl (et (ev_ret (evr_blk (evr_then (evr_then (evr_blk (evr_then (ret_pure' ttOk rfl rfl (congrArg bR (?_ : _ = _)))))))))))))))))))))))))
             simp [diskOk, all_not (f := writeOk d) (k := j) (by omega) (writeOk_no1 h7)]
           · refine rdk_take 10 rfl (by kernel_rfl) ⟨_, _, rfl, rfl, (nf h7)⟩ (q_fieldAddr ttOk rfl) rfl (rdk_take 11 rfl (by kernel_rfl) ⟨_, _, rfl, rfl, (nf h7)⟩ (q_load ttOk rfl) rfl (rdk_take 12 rfl (by kernel_rfl) ⟨_, _, rfl, rfl, (nf h7)⟩ (q_move rfl) rfl (rdk_take 13 rfl (by kernel_rfl) ⟨_, _, rfl, rfl, (nf h7)⟩ (q_ix_map ttOk rfl rfl rfl rfl (by omega)) rfl (rdk_take 14 rfl (by kernel_rfl) ⟨_, _, rfl, rfl, (nf h7)⟩ (q_fieldAddr ttOk rfl) rfl (rdk_take 15 rfl (by kernel_rfl) ⟨_, _, rfl, rfl, (nf h7)⟩ (q_load ttOk rfl) rfl (rdk_one 16 (by kernel_rfl) (rdo_call (nm := 58) rfl ⟨_, _, rfl, rfl, (nf h7)⟩ (cf rfl) (c_RowOk _) (rs_of rfl) rfl rfl rfl (rdk_take 17 rfl (by kernel_rfl) ⟨_, _, rfl, rfl, (nf h7)⟩ (q_not rfl) rfl (rdk_take 18 rfl (by kernel_rfl) trivial (q_pick_f rfl (nf h7) rfl) rfl (rdk_endq (by kernel_rfl) (et (ev_cond_n rfl (fun h8 => ?_) (fun h8 => ?_)))))))))))))
             · refine sq (rg (xs rfl rfl (nl (et (ev_ret (evr_blk (evr_then (evr_then (evr_blk (evr_then (ret_pure' ttOk rfl rfl (congrArg bR (?_ : _ = _)))))))))))))
               simp [diskOk, all_not (f := writeOk d) (k := j) (by omega) (writeOk_no2 h8)]
             · refine ev_skip (eb (et (rg (xm rfl rfl (xa rfl rfl rfl (by omega) rfl (xs rfl rfl (nl (eve_round (j + 1) [] ?hp ⟨by (repeat first | exact trivial | refine ⟨rfl, ?_⟩), by (repeat first | exact trivial | refine ⟨rfl, ?_⟩), by (repeat first | exact trivial | refine ⟨⟨_, rfl, rfl⟩, ?_⟩), by (repeat first | exact trivial | refine ⟨⟨_, rfl, rfl⟩, ?_⟩), rfl⟩))))))))
               case hp => exact ⟨⟨by omega, all_take (by omega) q1 (writeOk_yes h7 h8)⟩, by omega⟩
         · have d6 := of_decide_eq_false h6
           refine ev_exit (evx_then (evx_then (evx_hit (et (sq (rg (xs rfl rfl (nl (et (ev_ret (ret_pure' ttOk rfl rfl (congrArg bR (?_ : _ = _)))))))))))))
           simp [diskOk, all_done (f := rowOk) (k := k) (by omega) p1, all_done (f := writeOk d) (k := j) (by omega) q1]; omega
theorem c_DiskOk' (d : Disk) : Pure Tryz.prog 211 [many (diskC d)] (bR (diskOk d)) := by
 refine pure_intro (N := 53) Tryz.func211 rfl rfl rfl rfl (fun H w => ?_)
 refine sq (rg (evl_e (e_box rfl rfl rfl rfl) (xs rfl rfl (nl (et (sq (sq (rg (xf ttOk rfl rfl (xl ttOk rfl rfl (xo (q_len_map ttOk rfl rfl) rfl (xb ttOk rfl rfl (xm rfl rfl (evl_part rfl rfl (fun h1 => ?_) (fun h1 => ?_)))))))))))))))
 · have d1 := of_decide_eq_true h1
   refine gn h1 rfl rfl rfl (gn h1 rfl rfl rfl (gn h1 rfl rfl rfl (gn h1 rfl rfl rfl (xo (q_pick_t rfl h1 rfl) rfl (xm rfl rfl (gn rfl rfl rfl rfl (gn rfl rfl rfl rfl (gn rfl rfl rfl rfl (gn rfl rfl rfl rfl (xo (q_pick_t rfl rfl rfl) rfl (nl (et (ev_cond_kt rfl rfl (sq (rg (xs rfl rfl (nl (et (ev_ret (evr_then (ret_pure' ttOk rfl rfl (congrArg bR (?_ : _ = _)))))))))))))))))))))))
   have : ¬ 1 ≤ d.kept.length := by omega
   simp [diskOk, this]
 · have d1 := of_decide_eq_false h1
   refine go h1 rfl rfl (q_fieldAddr ttOk rfl) rfl (go h1 rfl rfl (q_load ttOk rfl) rfl (go h1 rfl rfl (q_len_map ttOk rfl rfl) rfl (go h1 rfl rfl (q_bin ttOk rfl) rfl (xo (q_pick_f rfl h1 rfl) rfl (xm rfl rfl (evl_part rfl rfl (fun h2 => ?_) (fun h2 => ?_)))))))
   · have d2 := of_decide_eq_true h2
     refine gn h2 rfl rfl rfl (gn h2 rfl rfl rfl (gn h2 rfl rfl rfl (gn h2 rfl rfl rfl (xo (q_pick_t rfl h2 rfl) rfl (nl (et (ev_cond_kt rfl rfl (sq (rg (xs rfl rfl (nl (et (ev_ret (evr_then (ret_pure' ttOk rfl rfl (congrArg bR (?_ : _ = _)))))))))))))))))
     have : ¬ d.kept.length ≤ 40 := by omega
     simp [diskOk, this]
   · have d2 := of_decide_eq_false h2
     refine go h2 rfl rfl (q_fieldAddr ttOk rfl) rfl (go h2 rfl rfl (q_load ttOk rfl) rfl (go h2 rfl rfl (q_len_map ttOk rfl rfl) rfl (go h2 rfl rfl (q_bin ttOk rfl) rfl (xo (q_pick_f rfl h2 rfl) rfl (nl (et (ev_cond rfl (fun h3 => ?_) (fun h3 => ?_))))))))
     · have d3 := of_decide_eq_true h3
       refine sq (rg (xs rfl rfl (nl (et (ev_ret (evr_then (ret_pure' ttOk rfl rfl (congrArg bR (?_ : _ = _)))))))))
       have : ¬ d.wait.length ≤ 60 := by omega
       simp [diskOk, this]
     · have d3 := of_decide_eq_false h3
       refine ev_skip (et (sq (sq (rg (xf ttOk rfl rfl (xl ttOk rfl rfl (xo (q_len_map ttOk rfl rfl) rfl (xm rfl rfl (nl (et (ev_blk (ev_loop (fun k : Nat => (⟨[(26, iV k), (24, cV (rows d.kept)), (25, iV d.kept.length), (1, pbV 1 0)], [(1, 25, [.c (rows d.kept), .c (writes d.wait)])], [], []⟩ : St)) (fun k => k ≤ d.kept.length ∧ ∀ x ∈ d.kept.take k, rowOk x = true) (fun k => d.kept.length - k) 0 [] (⟨by simp, by simp⟩) ⟨by (repeat first | exact trivial | refine ⟨rfl, ?_⟩), by (repeat first | exact trivial | refine ⟨rfl, ?_⟩), by (repeat first | exact trivial | refine ⟨⟨_, rfl, rfl⟩, ?_⟩), by (repeat first | exact trivial | refine ⟨⟨_, rfl, rfl⟩, ?_⟩), rfl⟩ ?_))))))))))))
       intro k hp
       obtain ⟨p0, p1⟩ := hp
       show Ev _ _ _ _ (⟨[(26, iV k), (24, cV (rows d.kept)), (25, iV d.kept.length), (1, pbV 1 0)], [(1, 25, [.c (rows d.kept), .c (writes d.wait)])], [], []⟩ : St)
       refine sq (rg (xb ttOk rfl rfl (nl (et (sq (ev_cond rfl (fun h4 => ?_) (fun h4 => ?_)))))))
       · have d4 := of_decide_eq_true h4
         refine ev_skip (et (sq (ev_blk (sq (rg (xo (q_ix_map ttOk rfl rfl rfl rfl (by omega)) rfl (xl ttOk rfl rfl (xs rfl rfl (nl (et (sq (rg (xm rfl rfl (evl_call (nm := 31) (cf rfl) (c_RowOk' _) (rs_of rfl) rfl rfl rfl (xo (q_not rfl) rfl (nl (et (ev_cond_n rfl (fun h5 => ?_) (fun h5 => ?_)))))))))))))))))))
         · refine sq (rg (xs rfl rfl (nl (et (ev_ret (evr_blk (evr_then (evr_then (evr_blk (evr_then (ret_pure' ttOk rfl rfl (congrArg bR (?_ : _ = _)))))))))))))
           simp [diskOk, all_not (f := rowOk) (k := k) (by omega) h5]
         · refine ev_skip (eb (et (rg (xa rfl rfl rfl (by omega) rfl (xm rfl rfl (nl (eve_round (k + 1) [] ?hp ⟨by (repeat first | exact trivial | refine ⟨rfl, ?_⟩), by (repeat first | exact trivial | refine ⟨rfl, ?_⟩), by (repeat first | exact trivial | refine ⟨⟨_, rfl, rfl⟩, ?_⟩), by (repeat first | exact trivial | refine ⟨⟨_, rfl, rfl⟩, ?_⟩), rfl⟩)))))))
           case hp => exact ⟨⟨by omega, all_take (by omega) p1 h5⟩, by omega⟩
       · have d4 := of_decide_eq_false h4
         refine ev_exit (evx_then (evx_then (evx_hit (et (sq (sq (rg (xf ttOk rfl rfl (xl ttOk rfl rfl (xo (q_len_map ttOk rfl rfl) rfl (xm rfl rfl (nl (et (ev_blk (ev_loop (fun j : Nat => (⟨[(37, iV j), (35, cV (writes d.wait)), (36, iV d.wait.length), (1, pbV 1 0)], [(1, 25, [.c (rows d.kept), .c (writes d.wait)])], [], []⟩ : St)) (fun j => j ≤ d.wait.length ∧ ∀ x ∈ d.wait.take j, writeOk d x = true) (fun j => d.wait.length - j) 0 [] (⟨by simp, by simp⟩) ⟨by (repeat first | exact trivial | refine ⟨rfl, ?_⟩), by (repeat first | exact trivial | refine ⟨rfl, ?_⟩), by (repeat first | exact trivial | refine ⟨⟨_, rfl, rfl⟩, ?_⟩), by (repeat first | exact trivial | refine ⟨⟨_, rfl, rfl⟩, ?_⟩), rfl⟩ ?_)))))))))))))))
         intro j hp
         obtain ⟨q0, q1⟩ := hp
         show Ev _ _ _ _ (⟨[(37, iV j), (35, cV (writes d.wait)), (36, iV d.wait.length), (1, pbV 1 0)], [(1, 25, [.c (rows d.kept), .c (writes d.wait)])], [], []⟩ : St)
         refine sq (rg (xb ttOk rfl rfl (nl (et (sq (ev_cond rfl (fun h6 => ?_) (fun h6 => ?_)))))))
         · have d6 := of_decide_eq_true h6
           refine ev_skip (et (sq (ev_blk (sq (rg (xo (q_ix_map ttOk rfl rfl rfl rfl (by omega)) rfl (xl ttOk rfl rfl (evl_e (e_alloc ttOk rfl rfl rfl rfl) (xst ttOk rfl rfl (nl (et (sq (rg (xl ttOk rfl rfl (xf ttOk rfl rfl (xl ttOk rfl rfl (evl_call (nm := 44) (cf rfl) (c_sectorOk _ _) (rs_of rfl) rfl rfl rfl (xo (q_not rfl) rfl (xm rfl rfl (evl_partn rfl rfl (fun h7 => ?_) (fun h7 => ?_)))))))))))))))))))))
           · refine gn (nt h7) rfl rfl rfl (gn (nt h7) rfl rfl rfl (gn (nt h7) rfl rfl rfl (gn (nt h7) rfl rfl rfl (xo (q_pick_t rfl (nt h7) rfl) rfl (nl (et (ev_cond_kt rfl rfl (sq (rg (xs rfl rfl (nl (et (ev_ret (evr_blk (evr_then (evr_then (evr_blk (evr_then (ret_pure' ttOk rfl rfl (congrArg bR (?_ : _ = _)))))))))))))))))))))
             simp [diskOk, all_not (f := writeOk d) (k := j) (by omega) (writeOk_no1 h7)]
           · refine go (nf h7) rfl rfl (q_fieldAddr ttOk rfl) rfl (go (nf h7) rfl rfl (q_load ttOk rfl) rfl (evl_callg rfl rfl (nf h7) (nm := 49) (cf rfl) (c_RowOk' _) (rs_of rfl) rfl rfl rfl (go (nf h7) rfl rfl (q_not rfl) rfl (xo (q_pick_f rfl (nf h7) rfl) rfl (nl (et (ev_cond_n rfl (fun h8 => ?_) (fun h8 => ?_))))))))
             · refine sq (rg (xs rfl rfl (nl (et (ev_ret (evr_blk (evr_then (evr_then (evr_blk (evr_then (ret_pure' ttOk rfl rfl (congrArg bR (?_ : _ = _)))))))))))))
               simp [diskOk, all_not (f := writeOk d) (k := j) (by omega) (writeOk_no2 h8)]
             · refine ev_skip (eb (et (rg (xa rfl rfl rfl (by omega) rfl (xm rfl rfl (nl (eve_round (j + 1) [] ?hp ⟨by (repeat first | exact trivial | refine ⟨rfl, ?_⟩), by (repeat first | exact trivial | refine ⟨rfl, ?_⟩), by (repeat first | exact trivial | refine ⟨⟨_, rfl, rfl⟩, ?_⟩), by (repeat first | exact trivial | refine ⟨⟨_, rfl, rfl⟩, ?_⟩), rfl⟩)))))))
               case hp => exact ⟨⟨by omega, all_take (by omega) q1 (writeOk_yes h7 h8)⟩, by omega⟩
         · have d6 := of_decide_eq_false h6
           refine ev_exit (evx_then (evx_then (evx_hit (et (sq (rg (xs rfl rfl (nl (et (ev_ret (ret_pure' ttOk rfl rfl (congrArg bR (?_ : _ = _)))))))))))))
           simp [diskOk, all_done (f := rowOk) (k := k) (by omega) p1, all_done (f := writeOk d) (k := j) (by omega) q1]; omega

end Go.Proofs.YtpbhcdgdabfhfaaGreat
