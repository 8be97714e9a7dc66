/- Walks of functions of the program, printed by a program of the prover. -/
import Derived.Test.YtpbhcdgdabfhfaaGreatLoF30
namespace Go.Proofs.YtpbhcdgdabfhfaaGreat
open Go.ChangeShapes Go.WideShapes Go.ChangeAt Go.RowKit
set_option linter.unusedVariables false
set_option linter.unusedSimpArgs false
set_option maxHeartbeats 1000000
set_option maxRecDepth 100000
attribute [local irreducible] EvL Ev EvE Quiet Eff Pure RDk RDb RDo
theorem entry_one (e : Entry) : ∀ c ∈ entryC e, ∃ v : Value, c = .v v ∧ v.oneCell' = true := by
  intro c hc
  simp only [List.mem_cons, List.not_mem_nil, or_false] at hc
  rcases hc with rfl | rfl | rfl | rfl | rfl | rfl | rfl | rfl | rfl <;> exact ⟨_, rfl, rfl⟩
theorem c_fromIt (b : Book) (x : Int) : ItOk Tryz.prog 216 [bookC b, [iC x]] entryC (fromF b x) := by
 refine it_intro (N := 24) Tryz.func216 rfl rfl rfl (fun H n0 FB l J Jx W hH hJ hJx hY h0 hq => ?_)
 refine sqR (rgR rfl hq (xf ttOk rfl rfl (xl ttOk rfl rfl (xo (q_len_map ttOk rfl rfl) rfl (xm rfl rfl (nl (etR (blkR (evr_loop (n := b.entries.length) (ti := 9) (fun k => [(9, iV (k : Int)), (8, iV b.entries.length), (7, cV (entries b.entries)), (0, .p false [.c (.v (.func (.yield l) #[] #[]))]), (1, .p false [.pe (bookC b)]), (2, .p false [.pe [iC x]])]) (fun k => J ((b.entries.take k).filter (fun e : Entry => decide (e.index ≥ x)))) (fun k => rfl) (fun W1 hc => hJ _ _ _ h0 hc) ⟨by (repeat first | exact trivial | refine ⟨rfl, ?_⟩), by (repeat first | exact trivial | refine ⟨rfl, ?_⟩), by (repeat first | exact trivial | refine ⟨⟨_, rfl, rfl⟩, ?_⟩), by (repeat first | exact trivial | refine ⟨⟨_, rfl, rfl⟩, ?_⟩), rfl⟩ (fun k W1 hk hj hH1 => ?_))))))))))
 refine evR_lenm (t := 7) rfl (fun hL => ?_)
 refine sqR (rgR rfl hq (xb ttOk rfl rfl (nl (etR (sqR (condR rfl (fun h2 => ?_) (fun h2 => ?_)))))))
 · have d2 := of_decide_eq_true h2
   refine skipR (etR (sqR (blkR (sqR (rgR rfl hq (xo (q_ix_map ttOk rfl rfl rfl rfl (by omega)) rfl (xl ttOk rfl rfl (evl_e (e_alloc ttOk rfl rfl rfl rfl) (xst ttOk rfl rfl (nl (etR (sqR (prefR 5 rfl hq (xf ttOk rfl rfl (xl ttOk rfl rfl (xl ttOk rfl rfl (xb ttOk rfl rfl (xm rfl rfl (nl (preq (evlr_part (b := decide (b.entries[k].index ≥ x)) (fun h1 => ?_) (fun h1 => ?_))))))))))))))))))))))
   · refine pre2 2 rfl hq (gm h1 rfl rfl rfl rfl (go h1 rfl rfl (q_load ttOk rfl) rfl (nl (preq (evlr_yield (cx := entryC b.entries[k]) (J := J ((b.entries.take k).filter (fun e : Entry => decide (e.index ≥ x)) ++ [b.entries[k]])) (Jx := Jx ((b.entries.take k).filter (fun e : Entry => decide (e.index ≥ x)) ++ [b.entries[k]])) (T' := (17, bV (decide (b.entries[k].index ≥ x))) :: [(9, iV (k : Int)), (8, iV b.entries.length), (7, cV (entries b.entries)), (0, .p false [.c (.v (.func (.yield l) #[] #[]))]), (1, .p false [.pe (bookC b)]), (2, .p false [.pe [iC x]])]) (T'' := [(17, bV (decide (b.entries[k].index ≥ x)))]) rfl rfl h1 rfl rfl (entry_one _) rfl (lesT (by (repeat first | exact trivial | refine ⟨rfl, ?_⟩))) (lesT (by (repeat first | exact trivial | refine ⟨rfl, ?_⟩))) rfl (fun b' o hb => ⟨hH1 b' o hb, (hH b' o hb).2⟩) (fun W2 hc => hY _ _ _ (hJ _ _ _ hj hc) (filter_lt (by omega) h1)) (fun W2 hj2 hH2 => ?_) (fun W2 hj2 => ?_))))))
     · refine sufR rfl hq (go h1 rfl rfl (q_notL rfl) rfl (xo (q_pick_t rfl h1 rfl) rfl (nl (etR (condR_kf rfl rfl (skipR (eb (etR (rgR rfl hq (xa rfl rfl rfl (by omega) rfl (xm rfl rfl (nl (evr_round (by omega) ⟨by (repeat first | exact trivial | refine ⟨rfl, ?_⟩), by (repeat first | exact trivial | refine ⟨rfl, ?_⟩), by (repeat first | exact trivial | refine ⟨⟨_, rfl, rfl⟩, ?_⟩), by (repeat first | exact trivial | refine ⟨⟨_, rfl, rfl⟩, ?_⟩), rfl⟩ (fun W3 hc => ?_))))))))))))))
       show J ((b.entries.take (k + 1)).filter (fun e : Entry => decide (e.index ≥ x))) W3
       rw [filter_yes (by omega) h1]
       exact hJ _ _ _ hj2 hc
     · refine sufR rfl hq (go h1 rfl rfl (q_notL rfl) rfl (xo (q_pick_t rfl h1 rfl) rfl (nl (etR (condR_kt rfl rfl (retR (evr_blk (evr_then (evr_then (evr_blk (it_end rfl (fun W3 hc => .inr ⟨_, ?_, hJx _ _ _ hj2 hc⟩))))))))))))
       rw [← filter_yes (p := (fun e : Entry => decide (e.index ≥ x))) (by omega) h1]
       exact filter_pre
   · refine sufR rfl hq (gn h1 rfl rfl rfl (gn h1 rfl rfl rfl (gn h1 rfl rfl rfl (gn h1 rfl rfl rfl (xo (q_pick_f rfl h1 rfl) rfl (nl (etR (condR_kf rfl rfl (skipR (eb (etR (rgR rfl hq (xa rfl rfl rfl (by omega) rfl (xm rfl rfl (nl (evr_round (by omega) ⟨by (repeat first | exact trivial | refine ⟨rfl, ?_⟩), by (repeat first | exact trivial | refine ⟨rfl, ?_⟩), by (repeat first | exact trivial | refine ⟨⟨_, rfl, rfl⟩, ?_⟩), by (repeat first | exact trivial | refine ⟨⟨_, rfl, rfl⟩, ?_⟩), rfl⟩ (fun W3 hc => ?_)))))))))))))))))
     show J ((b.entries.take (k + 1)).filter (fun e : Entry => decide (e.index ≥ x))) W3
     rw [filter_not (by omega) h1]
     exact hJ _ _ _ hj hc
 · have d2 := of_decide_eq_false h2
   refine exitR (evx_then (evx_then (evx_hit (it_fall rfl (fun W3 hc => ?_)))))
   rw [show fromF b x = (b.entries.take k).filter (fun e : Entry => decide (e.index ≥ x)) from (filter_full (by omega)).symm]
   exact hJ _ _ _ hj hc

end Go.Proofs.YtpbhcdgdabfhfaaGreat
