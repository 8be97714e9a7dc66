/- Walks of functions of the program, printed by a program of the prover. -/
import Derived.Test.YtpbhcdgdabfhfaaGreatLoF25
namespace Go.Proofs.YtpbhcdgdabfhfaaGreat
open Go.ChangeShapes Go.WideShapes Go.ChangeAt Go.RowKit
set_option linter.unusedVariables false
set_option linter.unusedSimpArgs false
set_option maxHeartbeats 1000000
set_option maxRecDepth 100000
attribute [local irreducible] EvL Ev EvE Quiet Eff Pure RDk RDb RDo
def noMark : Mark := ⟨0, 0, 0⟩
def findM (l : List Mark) (c : Int) : Mark := (l.find? fun m => decide (m.client = c)).getD noMark
theorem find_hit {l : List Mark} {c : Int} {k : Nat} (hk : k < l.length) (h : ∀ m ∈ l.take k, m.client ≠ c) (hc : l[k].client = c) : findM l c = l[k] := by
  have e : l.find? (fun m => decide (m.client = c)) = some l[k] := by
    conv => lhs; rw [← List.take_append_drop k l, List.drop_eq_getElem_cons hk]
    rw [List.find?_append, List.find?_eq_none.2 (by simpa using h), List.find?_cons_of_pos (by simpa using hc)]
    rfl
  simp [findM, e]
theorem find_no {l : List Mark} {c : Int} {k : Nat} (hk : ¬ k < l.length) (h : ∀ m ∈ l.take k, m.client ≠ c) : findM l c = noMark := by
  rw [List.take_of_length_le (by omega)] at h
  have e : l.find? (fun m => decide (m.client = c)) = none := List.find?_eq_none.2 (by simpa using h)
  simp [findM, e]
theorem c_MarkOf (l : List Mark) (c : Int) : Pure Tryz.prog 188 [one (marks l), one (iC c)] [many' [.v (.int .i64 (if seenOk l then findM l c else noMark).client), .v (.int .i64 (if seenOk l then findM l c else noMark).seq), .v (.int .i64 (if seenOk l then findM l c else noMark).index)]] := by
 refine pure_intro (N := 28) Tryz.func188 rfl rfl rfl rfl (fun H w => ?_)
 refine ev_lenm (t := 0) rfl (fun hL => ?_)
 refine sq (rg (evl_e (e_alloc ttOk rfl rfl rfl rfl) (nl (et (sq (sq (rg (xm rfl rfl (evl_call (nm := 7) (cf rfl) (c_SeenOk l) (rs_of rfl) rfl rfl rfl (xo (q_not rfl) rfl (nl (et (ev_cond_n rfl (fun h1 => ?_) (fun h1 => ?_))))))))))))))
 · try have d1 := of_decide_eq_false h1
   refine sq (rg (xo (q_build ttOk rfl) rfl (xst ttOk rfl rfl (nl (et (ev_ret (evr_then (ret_pure' ttOk rfl rfl ?_))))))))
   first
   | (rw [show seenOk l = false by assumption]; rfl)
   | (rw [show seenOk l = true by assumption, if_pos rfl, find_hit (k := k) (by omega) p1 (by assumption)]; done)
   | (rw [show seenOk l = true by assumption, if_pos rfl, find_no (k := k) (by omega) p1]; rfl)
 · try have d1 := of_decide_eq_true h1
   refine ev_skip (et (sq (sq (rg (xs rfl rfl (nl (et (ev_blk (ev_loop (fun k : Nat => (⟨[(5, iV k), (0, cV (marks l)), (1, iV c), (4, pbV 4 0)], [(4, 156, [.c (iC 0), .c (iC 0), .c (iC 0)])], [], []⟩ : St)) (fun k => k ≤ l.length ∧ ∀ m ∈ l.take k, m.client ≠ c) (fun k => l.length - k) 0 [] (⟨by simp, by simp⟩) ⟨by (repeat first | exact trivial | refine ⟨rfl, ?_⟩), by (repeat first | exact trivial | refine ⟨rfl, ?_⟩), by (repeat first | exact trivial | refine ⟨⟨_, rfl, rfl⟩, ?_⟩), by (repeat first | exact trivial | refine ⟨⟨_, rfl, rfl⟩, ?_⟩), rfl⟩ ?_)))))))))
   intro k hp
   obtain ⟨p0, p1⟩ := hp
   show Ev _ _ _ _ (⟨[(5, iV k), (0, cV (marks l)), (1, iV c), (4, pbV 4 0)], [(4, 156, [.c (iC 0), .c (iC 0), .c (iC 0)])], [], []⟩ : St)
   refine sq (sq (rg (xm rfl rfl (xm rfl rfl (xo (q_len_map ttOk rfl rfl) rfl (xb ttOk rfl rfl (nl (et (ev_cond rfl (fun h2 => ?_) (fun h2 => ?_))))))))))
   · try have d2 := of_decide_eq_true h2
     refine ev_skip (et (sq (ev_blk (sq (rg (xm rfl rfl (xm rfl rfl (xo (q_ix_map ttOk rfl rfl rfl rfl (by omega)) rfl (xf ttOk rfl rfl (xl ttOk rfl rfl (xm rfl rfl (xb ttOk rfl rfl (nl (et (ev_cond rfl (fun h3 => ?_) (fun h3 => ?_))))))))))))))))
     · try have d3 := of_decide_eq_true h3
       refine sq (rg (xm rfl rfl (xm rfl rfl (xo (q_ix_map ttOk rfl rfl rfl rfl (by omega)) rfl (xl ttOk rfl rfl (xst ttOk rfl rfl (nl (et (ev_ret (evr_blk (evr_then (evr_then (evr_blk (evr_then (ret_pure' ttOk rfl rfl ?_)))))))))))))))
       first
       | (rw [show seenOk l = false by assumption]; rfl)
       | (rw [show seenOk l = true by assumption, if_pos rfl, find_hit (k := k) (by omega) p1 (by assumption)]; done)
       | (rw [show seenOk l = true by assumption, if_pos rfl, find_no (k := k) (by omega) p1]; rfl)
     · try have d3 := of_decide_eq_false h3
       refine ev_skip (eb (et (rg (xm rfl rfl (xa rfl rfl rfl (by omega) rfl (xs rfl rfl (nl (eve_round (k + 1) [] ?hp ⟨by (repeat first | exact trivial | refine ⟨rfl, ?_⟩), by (repeat first | exact trivial | refine ⟨rfl, ?_⟩), by (repeat first | exact trivial | refine ⟨⟨_, rfl, rfl⟩, ?_⟩), by (repeat first | exact trivial | refine ⟨⟨_, rfl, rfl⟩, ?_⟩), rfl⟩))))))))
       case hp => exact ⟨⟨by omega, all_takeP (by omega) p1 (by assumption)⟩, by omega⟩
   · try have d2 := of_decide_eq_false h2
     refine ev_exit (evx_then (evx_then (evx_hit (et (sq (rg (xo (q_build ttOk rfl) rfl (xst ttOk rfl rfl (nl (et (ev_ret (ret_pure' ttOk rfl rfl ?_))))))))))))
     first
     | (rw [show seenOk l = false by assumption]; rfl)
     | (rw [show seenOk l = true by assumption, if_pos rfl, find_hit (k := k) (by omega) p1 (by assumption)]; done)
     | (rw [show seenOk l = true by assumption, if_pos rfl, find_no (k := k) (by omega) p1]; rfl)
theorem c_MarkOf2 (l : List Mark) (c : Int) (h : seenOk l = true) : Pure Tryz.prog 188 [one (marks l), one (iC c)] [many' [.v (.int .i64 (findM l c).client), .v (.int .i64 (findM l c).seq), .v (.int .i64 (findM l c).index)]] := by
  have := c_MarkOf l c
  rw [h] at this
  exact this
end Go.Proofs.YtpbhcdgdabfhfaaGreat
