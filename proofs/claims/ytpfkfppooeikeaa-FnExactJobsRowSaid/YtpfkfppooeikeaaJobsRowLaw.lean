/- Walks of functions of the program, printed by a program of the prover. -/
import Derived.Test.YtpfkfppooeikeaaJobsR
import Derived.Test.YtpfkfppooeikeaaJobsE
import Derived.WalkKit
import Derived.WalkSpells
import Derived.Deep.QuietTactic
import Derived.BigQuiet
import Derived.Deep.Light
import Derived.Lib.Hide
import Derived.Deep.RegionHeld3
namespace Go.Proofs.Ytpfkfppooeikeaa
open Go.ChangeShapes Go.WideShapes Go.ChangeAt Go.RowKit Go.Deep
set_option maxHeartbeats 1600000
set_option maxRecDepth 100000

theorem c_law_JobsRow (ji jt jh je ju : Int) (ao : Option Addr) (cap : Nat) (l : List (Int × Int)) (w : World) (yji : inI64 ji) (yjt : inI64 jt) (yjh : inI64 jh) (yje : inI64 je) (yju : inI64 ju) (hl : ReadA dueE w ao l) :
    Calls Try.prog 19 #[.agg #[.int .i64 ji, .int .i64 jt, .int .i64 jh, .int .i64 je, .int .i64 ju, .slice ao l.length cap]] w fun en w' => en = .returned (.bool true) ∧ Below w.heap.size w w' := by
  have hm := hl.2.1
  have Hl : Hid (∀ W, Below w.heap.size w W → ReadA dueE W ao l) := fun W hb => hl.below hb
  clear hl
  by_cases hlt : (1048576 : Int) - l.length < 0
  · have hs := szB_neg hlt
    have hd : decide (szB 1048576 l.length < 0) = true := by rw [hs]; rfl
    clear hs
    go_enter Try.func19, Try.ntmps19
    go_wp2_with (go_at_call 75; refine (c_laws_szJobs _ _ _ _ _ _ _ _ _ _ (by omega) (by omega) hm).mono ?_; rintro e w' ⟨rfl, hb⟩)
    all_goals go_ret
    all_goals (refine ⟨rfl, ?_⟩; (repeat (first | with_reducible exact Below.refl _ _ | ((with_reducible refine bl_alloc ?_ ?_); (focus (first | (simp; done) | (simp; omega) | omega))) | ((with_reducible refine bl_set ?_ ?_); (focus (first | (simp; done) | (simp; omega) | omega))) | ((with_reducible refine bl_later ?_ ?_); (focus (first | (simp; done) | (simp; omega) | omega))) | with_reducible refine bl_drew ?_ | with_reducible refine bl_drewN ?_ | ((with_reducible refine bl_step (by assumption) ?_ ?_); (focus (first | (simp; done) | (simp; omega) | omega))))))
  · have hs := szB_pos hlt
    have Hs := Lib.hid hs
    clear hs
    have hd : decide (szB 1048576 l.length < 0) = false := by rw [Hs.out]; simp; omega
    have hsm : l.length ≤ 1099511627776 := by omega
    have hsr : (rowJobs ji jt jh je ju l).length ≤ 1099511627776 := by
      unfold rowJobs
      split
      · rw [List.length_append, length_flat len_dueNums]; simp only [List.length_cons, List.length_nil]; omega
      · simp
    go_enter Try.func19, Try.ntmps19
    go_wp2_with fail
    have Bt := Bx.new w [.int .i64 ji, .int .i64 jt, .int .i64 jh, .int .i64 je, .int .i64 ju, .slice ao l.length cap] 94
    have hB : Below w.heap.size w (w.alloc (.cells ([.int .i64 ji, .int .i64 jt, .int .i64 jh, .int .i64 je, .int .i64 ju, .slice ao l.length cap] : List Value).toArray 94)) := by (repeat (first | with_reducible exact Below.refl _ _ | ((with_reducible refine bl_alloc ?_ ?_); (focus (first | (simp; done) | (simp; omega) | omega))) | ((with_reducible refine bl_set ?_ ?_); (focus (first | (simp; done) | (simp; omega) | omega))) | ((with_reducible refine bl_later ?_ ?_); (focus (first | (simp; done) | (simp; omega) | omega))) | with_reducible refine bl_drew ?_ | with_reducible refine bl_drewN ?_ | ((with_reducible refine bl_step (by assumption) ?_ ?_); (focus (first | (simp; done) | (simp; omega) | omega)))))
    refine (c_laws_szJobs _ _ _ _ _ _ _ _ _ _ (by omega) (by omega) hm).mono ?_
    rintro e w1 ⟨rfl, hb1⟩
    replace Bt := Bt.below hb1
    replace hB := bl_step hb1 hB.size hB
    have hs_hb1 := hb1.size
    clear hb1
    simp only [World.size_alloc] at hs_hb1
    have q0 := Bt.2
    go_wp2_with fail
    clear q0
    refine (c_laws_toJobs _ _ _ _ _ _ _ _ _ (Hl.out _ hB) hsm).mono ?_
    rintro e w2 ⟨a2, c2, rfl, ho2, hb2⟩
    replace Bt := Bt.below hb2
    replace hB := bl_step hb2 hB.size hB
    have hs_hb2 := hb2.size
    clear hb2
    go_wp2_with fail
    refine (c_spec_JobsRow _ _ _ _ _ _ _ _ _ yji yjt yjh yje yju ho2.read).mono ?_
    rintro e w3 ⟨a3, c3, rfl, ho3, hb3⟩
    replace Bt := Bt.below hb3
    replace hB := bl_step hb3 hB.size hB
    have hs_hb3 := hb3.size
    clear hb3
    clear ho2
    have lt3 := ho3.2.2.lt
    have q0 := Bt.2
    go_wp2_with fail
    clear q0
    refine (c_laws_toJobs _ _ _ _ _ _ _ _ _ (Hl.out _ hB) hsm).mono ?_
    rintro e w4 ⟨a4, c4, rfl, ho4, hb4⟩
    replace Bt := Bt.below hb4
    replace ho3 := ho3.below hb4
    replace hB := bl_step hb4 hB.size hB
    have hs_hb4 := hb4.size
    clear hb4
    have lt4 := ho4.2.2.lt
    replace Bt := Bt.alloc (.cells ([.int .i64 ji, .int .i64 jt, .int .i64 jh, .int .i64 je, .int .i64 ju, .slice a4 l.length c4] : List Value).toArray 99)
    replace ho3 := ho3.below ((Below.refl _ _).alloc (Nat.le_refl _) (.cells ([.int .i64 ji, .int .i64 jt, .int .i64 jh, .int .i64 je, .int .i64 ju, .slice a4 l.length c4] : List Value).toArray 99))
    replace ho4 := ho4.below ((Below.refl _ _).alloc (Nat.le_refl _) (.cells ([.int .i64 ji, .int .i64 jt, .int .i64 jh, .int .i64 je, .int .i64 ju, .slice a4 l.length c4] : List Value).toArray 99))
    replace hB := hB.alloc hB.size (.cells ([.int .i64 ji, .int .i64 jt, .int .i64 jh, .int .i64 je, .int .i64 ju, .slice a4 l.length c4] : List Value).toArray 99)
    have B5 := Bx.new w4 [.int .i64 ji, .int .i64 jt, .int .i64 jh, .int .i64 je, .int .i64 ju, .slice a4 l.length c4] 99
    have q0 := B5.2
    go_wp2_with fail
    clear q0
    refine (c_impl_JobsRow _ _ _ _ _ _ _ _ _ yji yjt yjh yje yju ho4.read).mono ?_
    rintro e w6 ⟨a6, c6, rfl, ho6, hb6⟩
    replace Bt := Bt.below hb6
    replace ho3 := ho3.below hb6
    replace ho4 := ho4.below hb6
    replace B5 := B5.below hb6
    replace hB := bl_step hb6 hB.size hB
    have hs_hb6 := hb6.size
    clear hb6
    have lt6 := ho6.2.2.lt
    simp only [World.size_alloc] at hs_hb6 lt6
    go_wp2_with fail
    refine (c_eqInt64S _ _ _ _ _ _ _ ho6.read ho3.read).mono ?_
    rintro e w7 ⟨rfl, hb7⟩
    replace Bt := Bt.below hb7
    replace ho3 := ho3.below hb7
    replace ho4 := ho4.below hb7
    replace B5 := B5.below hb7
    replace ho6 := ho6.below hb7
    replace hB := bl_step hb7 hB.size hB
    have hs_hb7 := hb7.size
    clear hb7
    simp only [beq_self_eq_true]
    go_wp2_with fail
    go_region_held3 (fun W' => (∀ o, W'.cell? ⟨w.heap.size, o, none⟩ = ([.int .i64 ji, .int .i64 jt, .int .i64 jh, .int .i64 je, .int .i64 ju, .slice ao l.length cap] : List Value)[o]?) ∧ (∀ o, W'.cell? ⟨w4.heap.size, o, none⟩ = ([.int .i64 ji, .int .i64 jt, .int .i64 jh, .int .i64 je, .int .i64 ju, .slice a4 l.length c4] : List Value)[o]?)) (first | exact ⟨Bt.2, B5.2⟩ | exact ⟨((Bt.drew.below hb8).below hb9).2, ((B5.drew.below hb8).below hb9).2⟩ | exact ⟨(Bt.drew.below hb8).2, (B5.drew.below hb8).2⟩) (first | (go_at_call 77; refine (c_laws_toJobs _ _ _ _ _ _ _ _ _ (Hl.out _ (hB.drew)) hsm).mono ?_; rintro en w8 ⟨a8, c8, rfl, ho8, hb8⟩) | (go_at_call 79; refine (c_laws_eqJobs_same _ _ _ _ _ _ _ _ _ _ _ ((ho4.read.below (Below.refl _ _).drew).below hb8) ho8.read).mono ?_; rintro en w9 ⟨rfl, hb9⟩))
    replace Bt := Bt.below (Below.refl _ _).drew
    replace ho3 := ho3.below (Below.refl _ _).drew
    replace ho4 := ho4.below (Below.refl _ _).drew
    replace B5 := B5.below (Below.refl _ _).drew
    replace ho6 := ho6.below (Below.refl _ _).drew
    replace hB := hB.drew
    replace Bt := Bt.below hb8
    replace ho3 := ho3.below hb8
    replace ho4 := ho4.below hb8
    replace B5 := B5.below hb8
    replace ho6 := ho6.below hb8
    replace hB := bl_step hb8 hB.size hB
    have hs_hb8 := hb8.size
    replace Bt := Bt.below hb9
    replace ho3 := ho3.below hb9
    replace ho4 := ho4.below hb9
    replace B5 := B5.below hb9
    replace ho6 := ho6.below hb9
    replace hB := bl_step hb9 hB.size hB
    have hs_hb9 := hb9.size
    simp only [World.size_drew] at hs_hb8
    clear hb8 hb9 ho8
    have q0 := B5.2
    go_wp2_with fail
    clear q0
    refine (c_laws_markJobs _ _ _ _ _ _ _ _ _ _ _ ho4 (by omega) (by omega) hsm).mono ?_
    rintro e w10 ⟨rfl, hoM, hgM⟩
    have q4 := lt4
    replace Bt := Bt.grown hgM (fun e => by have h1 := lt4 _ e; omega)
    replace ho3 := ho3.apart hgM (fun k hk e => by have h1 := lt4 k e; have h2 := lt3 k hk; omega)
    replace B5 := B5.grown hgM (fun e => by have h1 := lt4 _ e; omega)
    replace ho6 := ho6.apart hgM (fun k hk e => by have h1 := lt4 k e; have h2 := lt6 k hk; omega)
    replace hB := bl_grown hgM hB.size (fun k hk => by have h1 := lt4 k hk; omega) hB
    have hs_hgM := hgM.size
    clear ho4 hgM hoM q4
    have hd1 : decide ((1 : Int) + 2 * (l.length : Int) < 0) = false := by simp; omega
    go_wp2_with fail
    refine (c_eqInt64S _ _ _ _ _ _ _ ho6.read ho3.read).mono ?_
    rintro e w11 ⟨rfl, hb11⟩
    replace Bt := Bt.below hb11
    replace ho3 := ho3.below hb11
    replace B5 := B5.below hb11
    replace ho6 := ho6.below hb11
    replace hB := bl_step hb11 hB.size hB
    have hs_hb11 := hb11.size
    clear hb11
    simp only [beq_self_eq_true]
    go_wp2_with fail
    refine (c_laws_markInt64S _ _ _ _ _ _ ho6 (by omega) (by omega) hsr).mono ?_
    rintro e w12 ⟨rfl, hoG, hgG, hzG⟩
    clear hzG
    replace Bt := Bt.grown hgG (fun e => by have h1 := lt6 _ e; omega)
    replace ho3 := ho3.apart hgG (fun k hk e => by have h1 := lt6 k e; have h2 := lt3 k hk; omega)
    replace B5 := B5.grown hgG (fun e => by have h1 := lt6 _ e; omega)
    replace hB := bl_grown hgG hB.size (fun k hk => by have h1 := lt6 k hk; omega) hB
    have hs_hgG := hgG.size
    clear ho6 hgG
    go_wp2_with fail
    refine (c_laws_heldInt64S _ _ _ _ _ (read_seqI hoG) (by omega) (by omega) hsr).mono ?_
    rintro e w12 ⟨rfl, rfl⟩
    have q0 := Bt.2
    go_wp2_with fail
    clear q0
    refine (c_laws_toJobs _ _ _ _ _ _ _ _ _ (Hl.out _ hB) hsm).mono ?_
    rintro e w13 ⟨a13, c13, rfl, ho13, hb13⟩
    replace Bt := Bt.below hb13
    replace ho3 := ho3.below hb13
    replace B5 := B5.below hb13
    replace hoG := hoG.below hb13
    replace hB := bl_step hb13 hB.size hB
    have hs_hb13 := hb13.size
    clear hb13
    go_wp2_with fail
    refine (c_impl_JobsRow _ _ _ _ _ _ _ _ _ yji yjt yjh yje yju ho13.read).mono ?_
    rintro e w14 ⟨a14, c14, rfl, ho14, hb14⟩
    replace Bt := Bt.below hb14
    replace ho3 := ho3.below hb14
    replace B5 := B5.below hb14
    replace hoG := hoG.below hb14
    replace hB := bl_step hb14 hB.size hB
    have hs_hb14 := hb14.size
    clear hb14
    clear ho13
    go_wp2_with fail
    refine (c_eqInt64S _ _ _ _ _ _ _ ho14.read ho3.read).mono ?_
    rintro e w15 ⟨rfl, hb15⟩
    replace Bt := Bt.below hb15
    replace ho3 := ho3.below hb15
    replace B5 := B5.below hb15
    replace hoG := hoG.below hb15
    replace hB := bl_step hb15 hB.size hB
    have hs_hb15 := hb15.size
    clear hb15
    simp only [beq_self_eq_true]
    go_wp2_with fail
    refine (c_laws_heldInt64S _ _ _ _ _ (read_seqI hoG) (by omega) (by omega) hsr).mono ?_
    rintro e w15 ⟨rfl, rfl⟩
    go_wp2_with fail
    go_ret
    exact ⟨rfl, hB⟩

end Go.Proofs.Ytpfkfppooeikeaa
