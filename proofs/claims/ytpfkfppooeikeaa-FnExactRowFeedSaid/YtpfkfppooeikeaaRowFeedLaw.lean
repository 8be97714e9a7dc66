/- Walks of functions of the program, printed by a program of the prover. -/
import Derived.Test.YtpfkfppooeikeaaFeedD
import Derived.WalkKit
import Derived.WalkSpells
import Derived.Deep.QuietTactic
import Derived.BigQuiet
import Derived.Deep.Light
import Derived.Lib.Hide
import Derived.Deep.RegionHeld3
namespace Go.Proofs.Ytpfkfppooeikeaa
open Go.ChangeShapes Go.WideShapes Go.ChangeAt Go.RowKit Go.Deep
set_option maxHeartbeats 1600000
set_option maxRecDepth 100000

theorem read_marks {α : Type} {E : Enc α} {mk : Int → Nat → α} {w : World} {lo e cap n : Nat} {ao : Option Addr} {k : Int} (h : OwnA E w lo e (.slice ao n cap) ((List.range n).map (mk k))) : ReadA E w ao ((List.range n).map (mk k)) := by
  refine OwnA.read (lo := lo) (ty := e) (cap := cap) ?_
  rw [List.length_map, List.length_range]
  exact h

theorem len_feedOpen (l : List Int) : (feedOpen l).length ≤ 1000 := by
  unfold feedOpen
  split
  · rename_i hj
    by_cases h6 : l.length < 3
    · rw [isFeed_short h6] at hj; simp at hj
    · obtain ⟨x0, p0, p1, r, rfl⟩ := three (l := l) (by omega)
      simp only [isFeed, Bool.and_eq_true, decide_eq_true_eq] at hj
      have h7 := len_chunk r.length r (by omega)
      simp only [List.drop_succ_cons, List.drop_zero]
      omega
  · simp

theorem c_law_RowFeed (ao : Option Addr) (cap : Nat) (l : List Int) (w : World) (h : IntsR w ao l) :
    Calls Try.prog 24 #[.slice ao l.length cap] w fun e w' => e = .returned (.bool true) ∧ Below w.heap.size w w' := by
  have hm := h.2.1
  by_cases hlen : 1048576 < l.length
  · go_enter Try.func24, Try.ntmps24
    go_wp2
    go_ret
    exact ⟨rfl, Below.refl _ _⟩
  · have hl2 : l.length ≤ 1048576 := by omega
    have hL : (feedOpen l).length ≤ 1000 := len_feedOpen l
    have K1 := fun ao cap w h hc => c_spec_RowFeed ao cap l w h hc
    have K2 := fun ao cap w h hc => c_impl_RowFeed ao cap l w h hc
    unfold RetRowFeed at K1 K2
    generalize feedOpen l = L at K1 K2 hL
    generalize isFeed l = B at K1 K2
    generalize (feedHead l).1 = p0 at K1 K2
    generalize (feedHead l).2 = p1 at K1 K2
    replace K1 := Lib.hid K1
    replace K2 := Lib.hid K2
    go_enter Try.func24, Try.ntmps24
    go_wp2_with fail
    have hB := Below.refl w.heap.size w
    refine (c_toInt64S _ _ _ _ h (by omega)).mono ?_
    rintro e w1 ⟨a1, c1, rfl, ho1, hb1⟩
    replace hB := bl_step hb1 hB.size hB
    have hs_hb1 := hb1.size
    clear hb1
    go_wp2_with fail
    refine (K1.out _ _ _ ho1.read ho1.cap).mono ?_
    rintro e w2 ⟨a2, c2, rfl, ho2, hb2⟩
    replace hB := bl_step hb2 hB.size hB
    have hs_hb2 := hb2.size
    clear hb2
    clear ho1
    have lt2 := ho2.2.2.lt
    replace ho2 := ho2.below ((Below.refl _ _).alloc (Nat.le_refl _) (.cells ([.int .i64 p0, .int .i64 p1, .slice a2 L.length c2] : List Value).toArray 44))
    replace hB := hB.alloc hB.size (.cells ([.int .i64 p0, .int .i64 p1, .slice a2 L.length c2] : List Value).toArray 44)
    have B3 := Bx.new w2 [.int .i64 p0, .int .i64 p1, .slice a2 L.length c2] 44
    go_wp2_with fail
    refine (c_toInt64S _ _ _ _ (h.below hB) (by omega)).mono ?_
    rintro e w3 ⟨a3, c3, rfl, ho3, hb3⟩
    replace ho2 := ho2.below hb3
    replace B3 := B3.below hb3
    replace hB := bl_step hb3 hB.size hB
    have hs_hb3 := hb3.size
    clear hb3
    have lt3 := ho3.2.2.lt
    simp only [World.size_alloc] at hs_hb3 lt3
    go_wp2_with fail
    refine (K2.out _ _ _ ho3.read ho3.cap).mono ?_
    rintro e w4 ⟨a4, c4, rfl, ho4, hb4⟩
    replace ho2 := ho2.below hb4
    replace B3 := B3.below hb4
    replace ho3 := ho3.below hb4
    replace hB := bl_step hb4 hB.size hB
    have hs_hb4 := hb4.size
    clear hb4
    have lt4 := ho4.2.2.lt
    replace ho2 := ho2.below ((Below.refl _ _).alloc (Nat.le_refl _) (.cells ([.int .i64 p0, .int .i64 p1, .slice a4 L.length c4] : List Value).toArray 44))
    replace B3 := B3.alloc (.cells ([.int .i64 p0, .int .i64 p1, .slice a4 L.length c4] : List Value).toArray 44)
    replace ho3 := ho3.below ((Below.refl _ _).alloc (Nat.le_refl _) (.cells ([.int .i64 p0, .int .i64 p1, .slice a4 L.length c4] : List Value).toArray 44))
    replace ho4 := ho4.below ((Below.refl _ _).alloc (Nat.le_refl _) (.cells ([.int .i64 p0, .int .i64 p1, .slice a4 L.length c4] : List Value).toArray 44))
    replace hB := hB.alloc hB.size (.cells ([.int .i64 p0, .int .i64 p1, .slice a4 L.length c4] : List Value).toArray 44)
    have B6 := Bx.new w4 [.int .i64 p0, .int .i64 p1, .slice a4 L.length c4] 44
    have q0 := B3.2
    have q1 := B6.2
    go_wp2_with fail
    clear q0 q1
    refine (c_laws_eqFeed_same _ _ _ _ _ _ _ _ ho4.read ho2.read).mono ?_
    rintro e w5 ⟨rfl, hb5⟩
    replace ho2 := ho2.below hb5
    replace B3 := B3.below hb5
    replace ho3 := ho3.below hb5
    replace ho4 := ho4.below hb5
    replace B6 := B6.below hb5
    replace hB := bl_step hb5 hB.size hB
    have hs_hb5 := hb5.size
    clear hb5
    simp only [World.size_alloc] at hs_hb5
    go_wp2_with fail
    refine (c_toInt64S _ _ _ _ (h.below hB) (by omega)).mono ?_
    rintro e w6 ⟨a6, c6, rfl, ho6, hb6⟩
    replace ho2 := ho2.below hb6
    replace B3 := B3.below hb6
    replace ho3 := ho3.below hb6
    replace ho4 := ho4.below hb6
    replace B6 := B6.below hb6
    replace hB := bl_step hb6 hB.size hB
    have hs_hb6 := hb6.size
    clear hb6
    go_wp2_with fail
    refine (c_eqInt64S _ _ _ _ _ _ _ ho3.read ho6.read).mono ?_
    rintro e w7 ⟨rfl, hb7⟩
    replace ho2 := ho2.below hb7
    replace B3 := B3.below hb7
    replace ho3 := ho3.below hb7
    replace ho4 := ho4.below hb7
    replace B6 := B6.below hb7
    replace hB := bl_step hb7 hB.size hB
    have hs_hb7 := hb7.size
    clear hb7
    clear ho6
    simp only [beq_self_eq_true]
    go_wp2_with fail
    refine (c_laws_markInt64S _ _ _ _ _ _ ho3 (by omega) (by omega) (by omega)).mono ?_
    rintro e w8 ⟨rfl, hoM, hgM, hzM⟩
    clear hzM
    replace ho2 := ho2.apart hgM (fun k hk e => by have h1 := lt3 k e; have h2 := lt2 k hk; omega)
    replace B3 := B3.grown hgM (fun e => by have h1 := lt3 _ e; omega)
    replace ho4 := ho4.apart hgM (fun k hk e => by have h1 := lt3 k e; have h2 := lt4 k hk; omega)
    replace B6 := B6.grown hgM (fun e => by have h1 := lt3 _ e; omega)
    replace hB := bl_grown hgM hB.size (fun k hk => by have h1 := lt3 k hk; omega) hB
    have hs_hgM := hgM.size
    clear ho3 hgM hoM
    have hd1 : decide ((1 : Int) + (l.length : Int) < 0) = false := by simp; omega
    have q0 := B3.2
    have q1 := B6.2
    go_wp2_with fail
    clear q0 q1
    refine (c_laws_eqFeed_same _ _ _ _ _ _ _ _ ho4.read ho2.read).mono ?_
    rintro e w9 ⟨rfl, hb9⟩
    replace ho2 := ho2.below hb9
    replace B3 := B3.below hb9
    replace ho4 := ho4.below hb9
    replace B6 := B6.below hb9
    replace hB := bl_step hb9 hB.size hB
    have hs_hb9 := hb9.size
    clear hb9
    have q1 := B6.2
    go_wp2_with fail
    clear q1
    refine (c_laws_markFeed _ _ _ _ _ _ _ _ ho4 (by omega) (by omega) (by omega)).mono ?_
    rintro e w10 ⟨rfl, hoG, hgG⟩
    replace ho2 := ho2.apart hgG (fun k hk e => by have h1 := lt4 k e; have h2 := lt2 k hk; omega)
    replace B3 := B3.grown hgG (fun e => by have h1 := lt4 _ e; omega)
    replace B6 := B6.grown hgG (fun e => by have h1 := lt4 _ e; omega)
    replace hB := bl_grown hgG hB.size (fun k hk => by have h1 := lt4 k hk; omega) hB
    have hs_hgG := hgG.size
    clear ho4 hgG
    have hRG := read_marks hoG
    have q1 := B6.2
    go_wp2_with fail
    clear q1
    refine (c_laws_heldFeed _ _ _ _ _ _ _ hRG (by omega) (by omega) (by omega)).mono ?_
    rintro e w11 ⟨rfl, hb11⟩
    replace ho2 := ho2.below hb11
    replace B3 := B3.below hb11
    replace B6 := B6.below hb11
    replace hoG := hoG.below hb11
    replace hB := bl_step hb11 hB.size hB
    have hs_hb11 := hb11.size
    clear hb11
    have hd2 : decide ((1 : Int) + 9 * (L.length : Int) < 0) = false := by simp; omega
    clear hRG
    go_wp2_with fail
    refine (c_toInt64S _ _ _ _ (h.below hB) (by omega)).mono ?_
    rintro e w12 ⟨a12, c12, rfl, ho12, hb12⟩
    replace ho2 := ho2.below hb12
    replace B3 := B3.below hb12
    replace B6 := B6.below hb12
    replace hoG := hoG.below hb12
    replace hB := bl_step hb12 hB.size hB
    have hs_hb12 := hb12.size
    clear hb12
    go_wp2_with fail
    refine (K2.out _ _ _ ho12.read ho12.cap).mono ?_
    rintro e w13 ⟨a13, c13, rfl, ho13, hb13⟩
    replace ho2 := ho2.below hb13
    replace B3 := B3.below hb13
    replace B6 := B6.below hb13
    replace hoG := hoG.below hb13
    replace hB := bl_step hb13 hB.size hB
    have hs_hb13 := hb13.size
    clear hb13
    clear ho12
    have lt13 := ho13.2.2.lt
    replace ho2 := ho2.below ((Below.refl _ _).alloc (Nat.le_refl _) (.cells ([.int .i64 p0, .int .i64 p1, .slice a13 L.length c13] : List Value).toArray 44))
    replace B3 := B3.alloc (.cells ([.int .i64 p0, .int .i64 p1, .slice a13 L.length c13] : List Value).toArray 44)
    replace B6 := B6.alloc (.cells ([.int .i64 p0, .int .i64 p1, .slice a13 L.length c13] : List Value).toArray 44)
    replace hoG := hoG.below ((Below.refl _ _).alloc (Nat.le_refl _) (.cells ([.int .i64 p0, .int .i64 p1, .slice a13 L.length c13] : List Value).toArray 44))
    replace ho13 := ho13.below ((Below.refl _ _).alloc (Nat.le_refl _) (.cells ([.int .i64 p0, .int .i64 p1, .slice a13 L.length c13] : List Value).toArray 44))
    replace hB := hB.alloc hB.size (.cells ([.int .i64 p0, .int .i64 p1, .slice a13 L.length c13] : List Value).toArray 44)
    have B14 := Bx.new w13 [.int .i64 p0, .int .i64 p1, .slice a13 L.length c13] 44
    have q0 := B3.2
    have q1 := B14.2
    go_wp2_with fail
    clear q0 q1
    refine (c_laws_eqFeed_same _ _ _ _ _ _ _ _ ho13.read ho2.read).mono ?_
    rintro e w15 ⟨rfl, hb15⟩
    replace ho2 := ho2.below hb15
    replace B3 := B3.below hb15
    replace B6 := B6.below hb15
    replace hoG := hoG.below hb15
    replace ho13 := ho13.below hb15
    replace B14 := B14.below hb15
    replace hB := bl_step hb15 hB.size hB
    have hs_hb15 := hb15.size
    clear hb15
    have hRG := read_marks hoG
    have q1 := B6.2
    go_wp2_with fail
    clear q1
    refine (c_laws_heldFeed _ _ _ _ _ _ _ hRG (by omega) (by omega) (by omega)).mono ?_
    rintro e w16 ⟨rfl, hb16⟩
    replace ho2 := ho2.below hb16
    replace B3 := B3.below hb16
    replace B6 := B6.below hb16
    replace hoG := hoG.below hb16
    replace ho13 := ho13.below hb16
    replace B14 := B14.below hb16
    replace hB := bl_step hb16 hB.size hB
    have hs_hb16 := hb16.size
    clear hb16
    go_wp2_with fail
    go_ret
    exact ⟨rfl, hB⟩

end Go.Proofs.Ytpfkfppooeikeaa
