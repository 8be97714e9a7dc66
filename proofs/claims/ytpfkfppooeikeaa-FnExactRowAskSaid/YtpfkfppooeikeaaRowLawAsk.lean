/- Walks of functions of the program, printed by a program of the prover. -/
import Derived.Test.YtpfkfppooeikeaaRowInAsk
import Derived.WalkKit
import Derived.WalkSpells
import Derived.Deep.QuietTactic
import Derived.BigQuiet
import Derived.Deep.Light
import Derived.Lib.Hide
import Derived.Deep.RegionHeld3
namespace Go.Proofs.Ytpfkfppooeikeaa
open Go.ChangeShapes Go.WideShapes Go.ChangeAt Go.RowKit Go.Deep
set_option maxHeartbeats 800000
set_option maxRecDepth 100000
theorem c_law_RowAsk (ao : Option Addr) (cap : Nat) (l : List Int) (w : World) (h : IntsR w ao l) :
    Calls Try.prog 18 #[.slice ao l.length cap] w fun e w' => e = .returned (.bool true) ∧ Below w.heap.size w w' := by
  have hm := h.2.1
  by_cases hlen : 1048576 < l.length
  · go_enter Try.func18, Try.ntmps18
    go_wp2
    go_ret
    exact ⟨rfl, Below.refl _ _⟩
  · have hl2 : l.length ≤ 1048576 := by omega
    obtain ⟨c, s, k, a, b, x, y, hp⟩ := len_partsAsk l
    have k1 := fun ao cap w h hc => c_spec_RowAsk ao cap l w h hc
    have k2 := fun ao cap w h hc => c_impl_RowAsk ao cap l w h hc
    rw [hp] at k1 k2
    simp only [List.map_cons, List.map_nil] at k1 k2
    have K1 := Lib.hid k1
    have K2 := Lib.hid k2
    clear hp k1 k2
    go_enter Try.func18, Try.ntmps18
    go_wp2_with fail
    refine (c_toInt64S _ _ _ _ h (by omega)).mono ?_
    rintro e w1 ⟨a1, c1, rfl, ho1, hb1⟩
    go_wp2_with fail
    refine (K1.out _ _ _ ho1.read ho1.cap).mono ?_
    rintro e w2 ⟨rfl, hb2⟩
    have hB := bl_step hb2 hb1.size hb1
    have B0 := Bx.new w2 [.int .i64 c, .int .i64 s, .int .i64 k, .int .i64 a, .int .i64 b, .int .i64 x, .int .i64 y] 86
    clear hb1 hb2 ho1
    go_wp2_with fail
    refine (c_toInt64S _ _ _ _ (h.below (hB.alloc hB.size _)) (by omega)).mono ?_
    rintro e w3 ⟨a3, c3, rfl, ho3, hb3⟩
    replace B0 := B0.below hb3
    replace hB := bl_step hb3 (by have := hB.size; simp; omega) (hB.alloc hB.size (.cells ([.int .i64 c, .int .i64 s, .int .i64 k, .int .i64 a, .int .i64 b, .int .i64 x, .int .i64 y] : List Value).toArray 86))
    clear hb3
    go_wp2_with fail
    refine (K2.out _ _ _ ho3.read ho3.cap).mono ?_
    rintro e w4 ⟨rfl, hb4⟩
    replace B0 := (B0.below hb4).alloc (.cells ([.int .i64 c, .int .i64 s, .int .i64 k, .int .i64 a, .int .i64 b, .int .i64 x, .int .i64 y] : List Value).toArray 86)
    have B6 := Bx.new w4 [.int .i64 c, .int .i64 s, .int .i64 k, .int .i64 a, .int .i64 b, .int .i64 x, .int .i64 y] 86
    have hR3 := (ho3.read.below hb4).below ((Below.refl _ _).alloc (Nat.le_refl _) (.cells ([.int .i64 c, .int .i64 s, .int .i64 k, .int .i64 a, .int .i64 b, .int .i64 x, .int .i64 y] : List Value).toArray 86))
    replace hB := bl_step hb4 hB.size hB
    replace hB := hB.alloc hB.size (.cells ([.int .i64 c, .int .i64 s, .int .i64 k, .int .i64 a, .int .i64 b, .int .i64 x, .int .i64 y] : List Value).toArray 86)
    have q0 := B0.2
    have q6 := B6.2
    clear hb4 ho3
    go_wp2_with fail
    refine (c_eqAsk_same _ _ _ _ _ _ _ _).mono ?_
    rintro e w5 ⟨rfl, hb5⟩
    replace hR3 := hR3.below hb5
    replace hB := bl_step hb5 hB.size hB
    clear hb5 q0 q6 B0 B6
    go_wp2_with fail
    refine (c_toInt64S _ _ _ _ (h.below hB) (by omega)).mono ?_
    rintro e w6 ⟨a6, c6, rfl, ho6, hb6⟩
    replace hR3 := hR3.below hb6
    replace hB := bl_step hb6 hB.size hB
    clear hb6
    go_wp2_with fail
    refine (c_eqInt64S _ _ _ _ _ _ _ hR3 ho6.read).mono ?_
    rintro e w7 ⟨rfl, hb7⟩
    replace hB := bl_step hb7 hB.size hB
    go_wp2_with fail
    go_ret
    exact ⟨by simp, hB⟩

end Go.Proofs.Ytpfkfppooeikeaa
