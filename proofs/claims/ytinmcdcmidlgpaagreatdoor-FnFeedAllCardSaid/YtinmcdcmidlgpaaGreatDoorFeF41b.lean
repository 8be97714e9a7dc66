/- Walks of functions of the program, printed by a program of the prover. -/
import Derived.Test.YtinmcdcmidlgpaaGreatDoorFeF46
namespace Go.Proofs.YtinmcdcmidlgpaaGreatDoor
open Go.ChangeShapes Go.WideShapes Go.ChangeAt Go.RowKit
set_option linter.unusedVariables false
set_option linter.unusedSimpArgs false
set_option maxHeartbeats 1000000
set_option maxRecDepth 100000
attribute [local irreducible] EvL Ev EvE Quiet Eff Pure RDk RDb RDo
theorem ent_one (e : Entry) : ∀ c ∈ entryC e, ∃ x, c = .v x := fun c hc => let ⟨v, h, _⟩ := entry_one e c hc; ⟨v, h⟩
theorem c_PartOf (b : Book) (x k : Int) (hb : b.entries.length ≤ 1048576) : Pure Tryz.prog 112 [many (bookC b), one (iC x), one (iC k)] [one' (entriesR (partOfF b x k))] := by
 refine pure_introM (N := 30) Tryz.func112 rfl rfl rfl rfl (fun H w hH0 => ?_)
 refine sq (rg (evl_e (e_box rfl rfl rfl rfl) (evl_e (e_box rfl rfl rfl rfl) (xs rfl rfl (nl (et (sq (sq (rg (xl ttOk rfl rfl (evl_call (nm := 10) (cf rfl) (c_BookOk' b) (rs_of rfl) rfl rfl rfl (xo (q_not rfl) rfl (xm rfl rfl (evl_partn rfl rfl (fun h1 => ?_) (fun h1 => ?_)))))))))))))))
 ·try have d1 := of_decide_eq_false h1
  refine gn (nt h1) rfl rfl rfl (gn (nt h1) rfl rfl rfl (xo (q_pick_t rfl (nt h1) rfl) rfl (nl (et (ev_cond_kt rfl rfl (sq (rg (xs rfl rfl (nl (et (ev_ret (evr_then ?_))))))))))))
  first
  | exact retM0 rfl (ret_pureN ttOk rfl rfl (by rw [po_no1 ‹_›]; simp [RpLe, L2, RcLe]))
  | exact retM0 rfl (ret_pureN ttOk rfl rfl (by rw [po_no2 ‹_›]; simp [RpLe, L2, RcLe]))
  | exact retM rfl rfl hD hHD (retH rfl (ret_pure' ttOk rfl rfl (by rw [po_stop ‹_› ‹_› hpre hp])))
  | exact retM rfl rfl hD hHD (retH rfl (ret_pure' ttOk rfl rfl (by rw [po_all ‹_› ‹_› hp])))
 ·try have d1 := of_decide_eq_true h1
  refine go (nf h1) rfl rfl (q_load ttOk rfl) rfl (go (nf h1) rfl rfl (q_bin ttOk rfl) rfl (xo (q_pick_f rfl (nf h1) rfl) rfl (nl (et (ev_cond rfl (fun h2 => ?_) (fun h2 => ?_))))))
  ·try have d2 := of_decide_eq_true h2
   refine sq (rg (xs rfl rfl (nl (et (ev_ret (evr_then ?_))))))
   first
   | exact retM0 rfl (ret_pureN ttOk rfl rfl (by rw [po_no1 ‹_›]; simp [RpLe, L2, RcLe]))
   | exact retM0 rfl (ret_pureN ttOk rfl rfl (by rw [po_no2 ‹_›]; simp [RpLe, L2, RcLe]))
   | exact retM rfl rfl hD hHD (retH rfl (ret_pure' ttOk rfl rfl (by rw [po_stop ‹_› ‹_› hpre hp])))
   | exact retM rfl rfl hD hHD (retH rfl (ret_pure' ttOk rfl rfl (by rw [po_all ‹_› ‹_› hp])))
  ·try have d2 := of_decide_eq_false h2
   refine ev_skip (et (sq (rg (evl_e (e_lit ttOk rfl rfl rfl) (evl_e (e_alloc ttOk rfl rfl rfl rfl) (xst ttOk rfl rfl (nl (et (sq (sq (ev_freeze (cs := [iC k]) 5 rfl (fun H2 hH2 => ?_))))))))))))
   refine rg (xl ttOk rfl rfl (xm rfl rfl (evl_clos 112 113 (cf rfl) (c_entriesFrom b x) (rs_of rfl) rfl rfl rfl rfl (nl (et (ev_blk (ev_range (α := Entry) (L := fromF b x) (cx := entryC) (d := 8) (T0 := [(7, .p false [.pb 7 0]), (5, .p false [.pe [iC k]])]) [(101, 16)] 7 50 101 80 9 7 80 0 (fun pre : List Entry => pre.map entryC) (fun pre => (pre.length : Int) < k) (fun pre => (pre.length : Int) = k) rfl rfl rfl kr ⟨trf, trf, ⟨⟨_, rfl, rfl⟩, trivial⟩, tre, rfl⟩ rfl rfl rfl rfl rfl entry_one (flat_map entryC (fun e => ent_one e)) (by show ((0 : Nat) : Int) < k; omega) (fun ρ a w hs => it_seq2 hs rfl rfl rfl rfl rfl rfl rfl rfl (c_fromIt b x)) (fun W v l m e Q hq hk => ?_) (fun W F0 v l m pre e Q hp hlen hq hk hx => ?_) (fun hp D hD hHD => ?_) (fun pre hpre hp D hD hHD => ?_))))))))
   ·refine rgR rfl hq (evl_e (e_alloc ttOk rfl rfl rfl rfl) (xst ttOk rfl rfl (nl ?_)))
    exact hk
   ·have hfl : (fromF b x).length ≤ b.entries.length := List.length_filter_le _ _
    refine blkR (sqR (rgR rfl hq (xl ttOk rfl rfl (xl ttOk rfl rfl (evl_e (e_lit ttOk rfl rfl rfl) (evl_e (e_app ttOk rfl rfl rfl rfl rfl rfl rfl (by simp; omega) rfl rfl) (xst ttOk rfl rfl (nl (etR (sqR (rgR rfl hq (xl ttOk rfl rfl (xo (q_len_rt ttOk rfl rfl rfl) rfl (xl ttOk rfl rfl (xb ttOk rfl rfl (nl (etR (condR rfl (fun h3 => ?_) (fun h3 => ?_)))))))))))))))))))
    ·try have d3 := of_decide_eq_true h3
     refine exitR (evx_miss rfl ?_)
     exact hx (by simp at *; omega) _ [(101, 24)] ⟨trf, trf, ⟨⟨_, rfl, by simp⟩, trivial⟩, tre, rfl⟩
    ·try have d3 := of_decide_eq_false h3
     refine skipR (eb ?_)
     exact hk (by simp at *; omega) _ [(101, 24)] ⟨trf, trf, ⟨⟨_, rfl, by simp⟩, trivial⟩, tre, rfl⟩
   ·refine eb (et (sq (rg (xl ttOk rfl rfl (xs rfl rfl (nl (et (ev_ret ?_))))))))
    first
    | exact retM0 rfl (ret_pureN ttOk rfl rfl (by rw [po_no1 ‹_›]; simp [RpLe, L2, RcLe]))
    | exact retM0 rfl (ret_pureN ttOk rfl rfl (by rw [po_no2 ‹_›]; simp [RpLe, L2, RcLe]))
    | exact retM rfl rfl hD hHD (retH rfl (ret_pure' ttOk rfl rfl (by rw [po_stop ‹_› ‹_› hpre hp])))
    | exact retM rfl rfl hD hHD (retH rfl (ret_pure' ttOk rfl rfl (by rw [po_all ‹_› ‹_› hp])))
   ·refine evx_hit (et (sq (rg (xl ttOk rfl rfl (xs rfl rfl (nl (et (ev_ret ?_))))))))
    first
    | exact retM0 rfl (ret_pureN ttOk rfl rfl (by rw [po_no1 ‹_›]; simp [RpLe, L2, RcLe]))
    | exact retM0 rfl (ret_pureN ttOk rfl rfl (by rw [po_no2 ‹_›]; simp [RpLe, L2, RcLe]))
    | exact retM rfl rfl hD hHD (retH rfl (ret_pure' ttOk rfl rfl (by rw [po_stop ‹_› ‹_› hpre hp])))
    | exact retM rfl rfl hD hHD (retH rfl (ret_pure' ttOk rfl rfl (by rw [po_all ‹_› ‹_› hp])))
end Go.Proofs.YtinmcdcmidlgpaaGreatDoor
