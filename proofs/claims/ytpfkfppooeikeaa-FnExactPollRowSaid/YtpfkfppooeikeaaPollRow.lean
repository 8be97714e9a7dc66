/- Walks of functions of the program, printed by a program of the prover. -/
import Derived.Test.YtpfkfppooeikeaaOne
namespace Go.Proofs.Ytpfkfppooeikeaa
open Go.RowKit
set_option maxHeartbeats 400000
set_option maxRecDepth 100000
theorem c_spec_PollRow (x : Int) (w : World) (hx : inI64 x) : Calls Try.prog 32 #[.int .i64 x] w (RetI w 2 (oneRow 8 x 2 3)) := by
  go_enter Try.func32, Try.ntmps32
  go_wp2_with fail
  refine (c_spec_l11One _ _ _ _ _ (by simp [inI64]) hx).mono ?_
  rintro e w1 ⟨a1, c1, rfl, ho1, hb1⟩
  go_wp2_with fail
  go_ret
  exact ⟨a1, c1, rfl, ho1, hb1⟩
theorem c_impl_PollRow (x : Int) (w : World) (hx : inI64 x) : Calls Try.prog 33 #[.int .i64 x] w (RetI w 2 (oneRow 8 x 2 3)) := by
  go_enter Try.func33, Try.ntmps33
  go_wp2_with fail
  refine (c_encoded_poll _ _ hx).mono ?_
  rintro e w1 ⟨a1, c1, rfl, ho1, hb1⟩
  go_wp2_with fail
  go_ret
  exact ⟨a1, c1, rfl, ho1, hb1⟩
theorem c_law_PollRow (x : Int) (w : World) (hx : inI64 x) : Calls Try.prog 5 #[.int .i64 x] w fun e w' => e = .returned (.bool true) ∧ Below w.heap.size w w' := by
  have hL : (oneRow 8 x 2 3).length ≤ 1000 := by unfold oneRow; split <;> simp
  go_enter Try.func5, Try.ntmps5
  go_wp2_with fail
  refine (c_spec_PollRow x w hx).mono ?_
  rintro e w1 ⟨a1, c1, rfl, ho1, hb1⟩
  go_wp2_with fail
  refine (c_impl_PollRow x w1 hx).mono ?_
  rintro e w2 ⟨a2, c2, rfl, ho2, hb2⟩
  go_wp2_with fail
  refine (c_eqInt64S _ _ _ _ _ _ _ ho2.read (ho1.read.below hb2)).mono ?_
  rintro e w3 ⟨rfl, hb3⟩
  have hlt1 := ho1.2.2.lt
  have hlt2 := ho2.2.2.lt
  have ho1' : IntsO w3 w.heap.size 2 (.slice a1 (oneRow 8 x 2 3).length c1) (oneRow 8 x 2 3) := (ho1.below hb2).below hb3
  have ho2' : IntsO w3 w1.heap.size 2 (.slice a2 (oneRow 8 x 2 3).length c2) (oneRow 8 x 2 3) := ho2.below hb3
  have hB3 : Below w.heap.size w w3 := bl_step hb3 (Nat.le_trans hb1.size hb2.size) (bl_step hb2 hb1.size hb1)
  have hs1 := hb1.size
  have hs2 := hb2.size
  have hs3 := hb3.size
  clear ho1 ho2 hb1 hb2 hb3
  go_wp2_with fail
  refine (c_laws_markInt64S _ _ _ _ _ _ ho2' (by omega) (by omega) (by omega)).mono ?_
  rintro e w4 ⟨rfl, ho4, hg4, hz4⟩
  have ho1'' := ho1'.kept (B := w1.heap.size) (fun k hk => (hlt1 k hk).2) (fun k hk => (hlt2 k hk).1) hg4
  have hB4 : Below w.heap.size w w4 := hB3.grown hg4 (by omega) (fun k hk => Nat.le_trans hs1 (hlt2 k hk).1)
  clear ho1' ho2' hB3 hg4
  have Hz4 := Lib.hid hz4
  clear hz4
  go_wp2_with fail
  refine (c_laws_heldInt64S _ _ _ _ _ (read_seqI ho4) (by omega) (by omega) (by omega)).mono ?_
  rintro e w4 ⟨rfl, rfl⟩
  go_wp2_with fail
  refine (c_impl_PollRow x w4 hx).mono ?_
  rintro e w5 ⟨a5, c5, rfl, ho5, hb5⟩
  go_wp2_with fail
  refine (c_eqInt64S _ _ _ _ _ _ _ ho5.read (ho1''.read.below hb5)).mono ?_
  rintro e w6 ⟨rfl, hb6⟩
  go_wp2_with fail
  refine (c_laws_heldInt64S _ _ _ _ _ (((read_seqI ho4).below hb5).below hb6) (by omega) (by omega) (by omega)).mono ?_
  rintro e w6 ⟨rfl, rfl⟩
  go_wp2_with fail
  go_ret
  exact ⟨rfl, bl_step hb6 (Nat.le_trans hB4.size hb5.size) (bl_step hb5 hB4.size hB4)⟩

end Go.Proofs.Ytpfkfppooeikeaa
