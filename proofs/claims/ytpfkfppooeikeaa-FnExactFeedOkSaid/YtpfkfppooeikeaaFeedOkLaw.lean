/- Walks of functions of the program, printed by a program of the prover. -/
import Derived.Test.YtpfkfppooeikeaaFeedB
import Derived.WalkKit
import Derived.WalkSpells
import Derived.Deep.QuietTactic
import Derived.BigQuiet
import Derived.Deep.Light
import Derived.Lib.Hide
import Derived.Deep.RegionHeld3
namespace Go.Proofs.Ytpfkfppooeikeaa
open Go.ChangeShapes Go.WideShapes Go.ChangeAt Go.RowKit Go.Deep
set_option maxHeartbeats 1600000
set_option maxRecDepth 100000

theorem c_law_FeedOk (bs la : Int) (ao : Option Addr) (cap : Nat) (l : List (Int × Int × Int × Int × Int × Int × Int × Int × Int)) (w : World) (hl : ReadA entryE w ao l) :
    Calls Try.prog 10 #[.agg #[.int .i64 bs, .int .i64 la, .slice ao l.length cap]] w fun en w' => en = .returned (.bool true) ∧ Below w.heap.size w w' := by
  have hm := hl.2.1
  have Hl : Hid (∀ W, Below w.heap.size w W → ReadA entryE W ao l) := fun W hb => hl.below hb
  clear hl
  by_cases hlt : (1048576 : Int) - l.length < 0
  · have hs := szB_neg hlt
    have hd : decide (szB 1048576 l.length < 0) = true := by rw [hs]; rfl
    clear hs
    go_enter Try.func10, Try.ntmps10
    go_wp2_with (go_at_call 44; refine (c_laws_szFeed _ _ _ _ _ _ _ (by omega) (by omega) hm).mono ?_; rintro e w' ⟨rfl, hb⟩)
    all_goals go_ret
    all_goals (refine ⟨rfl, ?_⟩; (repeat (first | with_reducible exact Below.refl _ _ | ((with_reducible refine bl_alloc ?_ ?_); (focus (first | (simp; done) | (simp; omega) | omega))) | ((with_reducible refine bl_set ?_ ?_); (focus (first | (simp; done) | (simp; omega) | omega))) | ((with_reducible refine bl_later ?_ ?_); (focus (first | (simp; done) | (simp; omega) | omega))) | with_reducible refine bl_drew ?_ | with_reducible refine bl_drewN ?_ | ((with_reducible refine bl_step (by assumption) ?_ ?_); (focus (first | (simp; done) | (simp; omega) | omega))))))
  · have hs := szB_pos hlt
    have Hs := Lib.hid hs
    clear hs
    have hd : decide (szB 1048576 l.length < 0) = false := by rw [Hs.out]; simp; omega
    have hsm : l.length ≤ 1099511627776 := by omega
    go_enter Try.func10, Try.ntmps10
    go_wp2_with fail
    have Bt := Bx.new w [.int .i64 bs, .int .i64 la, .slice ao l.length cap] 39
    have hb0 : Below w.heap.size w (w.alloc (.cells [.int .i64 bs, .int .i64 la, .slice ao l.length cap].toArray 39)) := by (repeat (first | with_reducible exact Below.refl _ _ | ((with_reducible refine bl_alloc ?_ ?_); (focus (first | (simp; done) | (simp; omega) | omega))) | ((with_reducible refine bl_set ?_ ?_); (focus (first | (simp; done) | (simp; omega) | omega))) | ((with_reducible refine bl_later ?_ ?_); (focus (first | (simp; done) | (simp; omega) | omega))) | with_reducible refine bl_drew ?_ | with_reducible refine bl_drewN ?_ | ((with_reducible refine bl_step (by assumption) ?_ ?_); (focus (first | (simp; done) | (simp; omega) | omega)))))
    refine (c_laws_szFeed _ _ _ _ _ _ _ (by omega) (by omega) hm).mono ?_
    rintro en w1 ⟨rfl, hb1⟩
    replace Bt := Bt.below hb1
    replace hb0 := bl_step hb1 hb0.size hb0
    clear hb1
    have hcell := Bt.2
    go_wp2_with fail
    refine (c_laws_toFeed _ _ _ _ _ _ (Hl.out _ hb0) hsm).mono ?_
    rintro en w2 ⟨a2, c2, rfl, ho2, hb2⟩
    go_wp2_with fail
    refine (c_spec_FeedOk _ _ _ _ _ _ ho2.read).mono ?_
    rintro en w3 ⟨rfl, hb3⟩
    replace Bt := (Bt.below hb2).below hb3
    replace hb0 := bl_step hb3 (Nat.le_trans hb0.size hb2.size) (bl_step hb2 hb0.size hb0)
    clear hb2 hb3 ho2 hcell
    have hcell := Bt.2
    go_wp2_with fail
    refine (c_laws_toFeed _ _ _ _ _ _ (Hl.out _ hb0) hsm).mono ?_
    rintro en w4 ⟨a4, c4, rfl, ho4, hb4⟩
    replace Bt := Bt.below hb4
    replace hb0 := bl_step hb4 hb0.size hb0
    clear hb4 hcell
    have B5 := Bx.new w4 [.int .i64 bs, .int .i64 la, .slice a4 l.length c4] 44
    replace Bt := Bt.alloc (.cells ([.int .i64 bs, .int .i64 la, .slice a4 l.length c4] : List Value).toArray 44)
    replace ho4 := ho4.below ((Below.refl _ w4).alloc (Nat.le_refl _) (.cells ([.int .i64 bs, .int .i64 la, .slice a4 l.length c4] : List Value).toArray 44))
    replace hb0 := hb0.alloc hb0.size (.cells ([.int .i64 bs, .int .i64 la, .slice a4 l.length c4] : List Value).toArray 44)
    go_wp2_with fail
    refine (c_impl_FeedOk _ _ _ _ _ _ ho4.read).mono ?_
    rintro en w6 ⟨rfl, hb6⟩
    replace Bt := Bt.below hb6
    replace B5 := B5.below hb6
    replace ho4 := ho4.below hb6
    replace hb0 := bl_step hb6 hb0.size hb0
    clear hb6
    have hk := hb0.size
    go_wp2_with fail
    go_region_held3 (fun W' => (∀ o, W'.cell? ⟨w.heap.size, o, none⟩ = ([.int .i64 bs, .int .i64 la, .slice ao l.length cap] : List Value)[o]?) ∧ (∀ o, W'.cell? ⟨w4.heap.size, o, none⟩ = ([.int .i64 bs, .int .i64 la, .slice a4 l.length c4] : List Value)[o]?)) (first | exact ⟨Bt.2, B5.2⟩ | exact ⟨((Bt.drew.below hb7).below hb8).2, ((B5.drew.below hb7).below hb8).2⟩ | exact ⟨(Bt.drew.below hb7).2, (B5.drew.below hb7).2⟩) (first | (go_at_call 46; refine (c_laws_toFeed _ _ _ _ _ _ (Hl.out _ (hb0.drew)) hsm).mono ?_; rintro en w7 ⟨a7, c7, rfl, ho7, hb7⟩) | (go_at_call 48; refine (c_laws_eqFeed_same _ _ _ _ _ _ _ _ ((ho4.read.below (Below.refl _ _).drew).below hb7) ho7.read).mono ?_; rintro en w8 ⟨rfl, hb8⟩))
    go_wp2_with fail
    go_ret
    have hk7 := hb7.size
    exact ⟨by simp, bl_step hb8 (Nat.le_trans hk hk7) (bl_step hb7 hk hb0.drew)⟩

end Go.Proofs.Ytpfkfppooeikeaa
