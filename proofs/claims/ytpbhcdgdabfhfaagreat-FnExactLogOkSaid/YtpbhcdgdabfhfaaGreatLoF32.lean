/- Walks of functions of the program, printed by a program of the prover. -/
import Derived.Test.YtpbhcdgdabfhfaaGreatLoF31
namespace Go.Proofs.YtpbhcdgdabfhfaaGreat
open Go.ChangeShapes Go.WideShapes Go.ChangeAt Go.RowKit
set_option linter.unusedVariables false
set_option linter.unusedSimpArgs false
set_option maxHeartbeats 1000000
set_option maxRecDepth 100000
attribute [local irreducible] EvL Ev EvE Quiet Eff Pure RDk RDb RDo
theorem ack_one (a : Ack) : ∀ c ∈ ackC a, ∃ x, c = .v x := by
  intro c hc
  simp only [List.mem_cons, List.not_mem_nil, or_false] at hc
  rcases hc with rfl | rfl | rfl | rfl <;> exact ⟨_, rfl⟩
theorem flat_map {α : Type} (f : α → List C) (hf : ∀ x, ∀ c ∈ f x, ∃ v, c = .v v) : ∀ pre : List α, ∀ cs ∈ pre.map f, ∀ c ∈ cs, ∃ x, c = .v x := by
  intro pre cs hcs
  obtain ⟨x, _, rfl⟩ := List.mem_map.1 hcs
  exact hf x
theorem c_entriesFrom (b : Book) (x : Int) : Clos Tryz.prog 161 [many (bookC b), one (iC x)] 216 33 2 (bookC b) [iC x] := by
 refine clos_intro (N := 6) Tryz.func161 rfl rfl rfl rfl (fun H w => ?_)
 refine sq (rg (evl_e (e_box rfl rfl rfl rfl) (evl_e (e_box rfl rfl rfl rfl) (xs rfl rfl (nl (et (sq (rg (xo (q_mkf rfl rfl) rfl (xs rfl rfl (nl (et (ev_ret ?_)))))))))))))
 exact ret_clos rfl rfl rfl rfl rfl
theorem c_owed (b : Book) (x : Int) (hx : 0 ≤ x ∧ x ≤ 1000000) (hb : b.entries.length ≤ 1048576) : Pure Tryz.prog 93 [many (bookC b), one (iC x)] [one' (.s 114 4 ((fromF b (x + 1)).map fun e => ackC (ackF e)))] := by
 refine pure_introM (N := 19) Tryz.func93 rfl rfl rfl rfl (fun H w hH0 => ?_)
 refine sq (rg (evl_e (e_box rfl rfl rfl rfl) (xs rfl rfl (nl (et (sq (rg (evl_e (e_lit ttOk rfl rfl rfl) (evl_e (e_alloc ttOk rfl rfl rfl rfl) (xst ttOk rfl rfl (nl (et (sq (sq (rg (xl ttOk rfl rfl (xm rfl rfl (xa rfl rfl rfl (by omega) rfl (evl_clos 112 113 (cf rfl) (c_entriesFrom b (x + 1)) (rs_of rfl) rfl rfl rfl rfl (nl (et (ev_blk (ev_range (α := Entry) (L := fromF b (x + 1)) (cx := entryC) (d := 6) (T0 := [(5, .p false [.pb 5 0])]) [(101, 7)] 5 34 101 114 4 5 121 0 (fun pre : List Entry => pre.map fun e => ackC (ackF e)) (fun _ => True) (fun _ => False) rfl rfl hH0 rfl (by kernel_rfl) ⟨by (repeat first | exact trivial | refine ⟨rfl, ?_⟩), by (repeat first | exact trivial | refine ⟨rfl, ?_⟩), ⟨⟨_, rfl, rfl⟩, trivial⟩, by (repeat first | exact trivial | refine ⟨⟨_, rfl, rfl⟩, ?_⟩), rfl⟩ rfl rfl rfl rfl rfl entry_one (flat_map (fun e : Entry => ackC (ackF e)) (fun _ => ack_one _)) trivial (fun ρ a w hs => it_seq2 hs rfl rfl rfl rfl rfl rfl rfl rfl (c_fromIt b (x + 1))) (fun W v l m e Q hq hk => ?_) (fun W F0 v l m pre e Q hp hlen hq hk hx => ?_) (fun hp D hD => ?_) (fun pre hpre hp => hp.elim))))))))))))))))))))))))
 · refine rgR rfl hq (evl_e (e_alloc ttOk rfl rfl rfl rfl) (xst ttOk rfl rfl (nl ?_)))
   exact hk
 · have hfl : (fromF b (x + 1)).length ≤ b.entries.length := List.length_filter_le _ _
   refine blkR (drawR [4, 5] mo rfl (rdk_take 0 rfl (by kernel_rfl) trivial (q_load ttOk rfl) rfl (rdk_take 1 rfl (by kernel_rfl) trivial (q_load ttOk rfl) rfl (rdk_one 2 (by kernel_rfl) (rdo_call (nm := 15) rfl trivial (cf rfl) (c_AckOf' e) (rs_of rfl) rfl rfl rfl (rdk_one 3 (by kernel_rfl) (rdo_new rfl trivial (e_lit ttOk rfl rfl rfl) (rdk_one 4 (by kernel_rfl) (rdo_brk rfl rfl trivial (e_app ttOk rfl rfl rfl rfl rfl rfl rfl (by simp; omega) rfl rfl) (rdb_eff 5 rfl (by kernel_rfl) trivial (e_store ttOk rfl) (rdb_endq (by kernel_rfl) (eb ?_))))))))))))
   exact hk trivial _ [(101, 17)] ⟨by (repeat first | exact trivial | refine ⟨rfl, ?_⟩), by (repeat first | exact trivial | refine ⟨rfl, ?_⟩), ⟨⟨_, rfl, by simp⟩, trivial⟩, by (repeat first | exact trivial | refine ⟨⟨_, rfl, rfl⟩, ?_⟩), rfl⟩
 · refine eb (et (sq (rg (xl ttOk rfl rfl (xs rfl rfl (nl (et (ev_ret ?_))))))))
   exact retM rfl rfl hD hH0 (ret_pure' ttOk rfl rfl rfl)

end Go.Proofs.YtpbhcdgdabfhfaaGreat
