/- The law of JobsOk2. -/
import Derived.Test.YtbnmbgfpbagndaaJobs
import Derived.Deep.RegionHeld3
namespace Go.Proofs.Ytbnmbgfpbagndaa
open Go.RowKit
set_option maxHeartbeats 800000

theorem szB_neg {left : Int} {n : Nat} (h : left - n < 0) : szB left n = -1 := if_pos h
theorem szB_pos {left : Int} {n : Nat} (h : ¬ left - n < 0) : szB left n = left - n := if_neg h

theorem c_laws_szJobs (i t h e u : Int) (ao : Option Addr) (cap n : Nat) (left : Int) (w : World) (h0 : 0 ≤ left) (h1 : left ≤ 1048576) (hn : n ≤ 9223372036854775807) :
    Calls Try.prog 34 #[.agg #[.int .i64 i, .int .i64 t, .int .i64 h, .int .i64 e, .int .i64 u, .slice ao n cap], .int .i64 left] w fun e' w' => e' = .returned (.int .i64 (szB left n)) ∧ Below w.heap.size w w' := by
  by_cases hlt : left - n < 0
  · have hs := szB_neg hlt
    have Hs := Lib.hid hs
    clear hs
    have hd : decide (szB left n < 0) = true := by rw [Hs.out]; rfl
    go_enter Try.func34, Try.ntmps34
    go_wp2_with (go_at_call 59; refine (c_laws_szDueS _ _ _ _ _ h0 h1 hn).mono ?_; rintro e w' ⟨rfl, rfl⟩)
    all_goals go_ret
    all_goals (refine ⟨by rw [Hs.out]; rfl, ?_⟩; (repeat (first | with_reducible exact Below.refl _ _ | ((with_reducible refine bl_alloc ?_ ?_); (focus (first | (simp; done) | (simp; omega) | omega))) | ((with_reducible refine bl_set ?_ ?_); (focus (first | (simp; done) | (simp; omega) | omega))) | ((with_reducible refine bl_later ?_ ?_); (focus (first | (simp; done) | (simp; omega) | omega))) | with_reducible refine bl_drew ?_ | with_reducible refine bl_drewN ?_ | ((with_reducible refine bl_step (by assumption) ?_ ?_); (focus (first | (simp; done) | (simp; omega) | omega))))))
  · have hs := szB_pos hlt
    have Hs := Lib.hid hs
    clear hs
    have hd : decide (szB left n < 0) = false := by rw [Hs.out]; simp; omega
    go_enter Try.func34, Try.ntmps34
    go_wp2_with (go_at_call 59; refine (c_laws_szDueS _ _ _ _ _ h0 h1 hn).mono ?_; rintro e w' ⟨rfl, rfl⟩)
    all_goals go_ret
    all_goals (refine ⟨rfl, ?_⟩; (repeat (first | with_reducible exact Below.refl _ _ | ((with_reducible refine bl_alloc ?_ ?_); (focus (first | (simp; done) | (simp; omega) | omega))) | ((with_reducible refine bl_set ?_ ?_); (focus (first | (simp; done) | (simp; omega) | omega))) | ((with_reducible refine bl_later ?_ ?_); (focus (first | (simp; done) | (simp; omega) | omega))) | with_reducible refine bl_drew ?_ | with_reducible refine bl_drewN ?_ | ((with_reducible refine bl_step (by assumption) ?_ ?_); (focus (first | (simp; done) | (simp; omega) | omega))))))

/-- what toJobs hands back -/
def RetJobs (w : World) (i t h e u : Int) (l : List (Int × Int)) (en : Ending) (w' : World) : Prop :=
  ∃ (ao : Option Addr) (cap : Nat), en = .returned (.agg #[.int .i64 i, .int .i64 t, .int .i64 h, .int .i64 e, .int .i64 u, .slice ao l.length cap]) ∧ OwnA dueE w' w.heap.size 93 (.slice ao l.length cap) l ∧ Below w.heap.size w w'

theorem c_laws_toJobs (i t h e u : Int) (ao : Option Addr) (cap : Nat) (l : List (Int × Int)) (w : World) (hl : ReadA dueE w ao l) (hs : l.length ≤ 1099511627776) :
    Calls Try.prog 36 #[.agg #[.int .i64 i, .int .i64 t, .int .i64 h, .int .i64 e, .int .i64 u, .slice ao l.length cap]] w (RetJobs w i t h e u l) := by
  have Hl : Hid (∀ W, Below w.heap.size w W → ReadA dueE W ao l) := fun W hb => hl.below hb
  clear hl
  go_enter Try.func36, Try.ntmps36
  go_wp2_with fail
  refine (c_laws_toDueS _ _ _ _ (Hl.out _ (by (repeat (first | with_reducible exact Below.refl _ _ | ((with_reducible refine bl_alloc ?_ ?_); (focus (first | (simp; done) | (simp; omega) | omega))) | ((with_reducible refine bl_set ?_ ?_); (focus (first | (simp; done) | (simp; omega) | omega))) | ((with_reducible refine bl_later ?_ ?_); (focus (first | (simp; done) | (simp; omega) | omega))) | with_reducible refine bl_drew ?_ | with_reducible refine bl_drewN ?_ | ((with_reducible refine bl_step (by assumption) ?_ ?_); (focus (first | (simp; done) | (simp; omega) | omega))))))) hs).mono ?_
  rintro en w1 ⟨a1, c1, rfl, ho1, hb1⟩
  have hz1 := hb1.size
  simp at hz1
  have hc0 := fun (o : Nat) => hb1.cell (p := ⟨w.heap.size, o, none⟩) (by (first | (simp; done) | (simp; omega) | omega))
  have hc1 := fun (o : Nat) => hb1.cell (p := ⟨w.heap.size + 1, o, none⟩) (by (first | (simp; done) | (simp; omega) | omega))
  have hc2 := fun (o : Nat) => hb1.cell (p := ⟨w.heap.size + 1 + 1, o, none⟩) (by (first | (simp; done) | (simp; omega) | omega))
  have hf0 := fun (o : Nat) => hb1.frozen (p := ⟨w.heap.size, o, none⟩) (by (first | (simp; done) | (simp; omega) | omega))
  have hf1 := fun (o : Nat) => hb1.frozen (p := ⟨w.heap.size + 1, o, none⟩) (by (first | (simp; done) | (simp; omega) | omega))
  have hf2 := fun (o : Nat) => hb1.frozen (p := ⟨w.heap.size + 1 + 1, o, none⟩) (by (first | (simp; done) | (simp; omega) | omega))
  have Ho1 := Lib.hid ho1
  clear ho1
  go_wp2_with fail
  refine bodyPost_ret (v := .agg #[.int .i64 i, .int .i64 t, .int .i64 h, .int .i64 e, .int .i64 u, .slice a1 l.length c1]) (by simp [results, Try.results36, go_sem, *]) rfl ⟨a1, c1, rfl, ?_, ?_⟩
  · refine OwnA.weak (lo := w.heap.size + 1 + 1 + 1) (by omega) ?_
    repeat (first | ((with_reducible refine OwnA.set ?_ ?_); (focus (first | (simp; done) | (simp; omega) | omega))))
    have := Ho1.out
    simpa using this
  · (repeat (first | with_reducible exact Below.refl _ _ | ((with_reducible refine bl_alloc ?_ ?_); (focus (first | (simp; done) | (simp; omega) | omega))) | ((with_reducible refine bl_set ?_ ?_); (focus (first | (simp; done) | (simp; omega) | omega))) | ((with_reducible refine bl_later ?_ ?_); (focus (first | (simp; done) | (simp; omega) | omega))) | with_reducible refine bl_drew ?_ | with_reducible refine bl_drewN ?_ | ((with_reducible refine bl_step (by assumption) ?_ ?_); (focus (first | (simp; done) | (simp; omega) | omega)))))

theorem c_laws_eqJobs (i t h e u i2 t2 h2 e2 u2 : Int) (ao ao2 : Option Addr) (cap cap2 : Nat) (l m : List (Int × Int)) (w : World) (hl : ReadA dueE w ao l) (hm : ReadA dueE w ao2 m) :
    Calls Try.prog 38 #[.agg #[.int .i64 i, .int .i64 t, .int .i64 h, .int .i64 e, .int .i64 u, .slice ao l.length cap], .agg #[.int .i64 i2, .int .i64 t2, .int .i64 h2, .int .i64 e2, .int .i64 u2, .slice ao2 m.length cap2]] w fun en w' => en = .returned (.bool (i == i2 && (t == t2 && (h == h2 && (e == e2 && (u == u2 && l == m)))))) ∧ Below w.heap.size w w' := by
  have Hl : Hid (∀ W, Below w.heap.size w W → ReadA dueE W ao l) := fun W hb => hl.below hb
  have Hm : Hid (∀ W, Below w.heap.size w W → ReadA dueE W ao2 m) := fun W hb => hm.below hb
  clear hl hm
  go_enter Try.func38, Try.ntmps38
  go_wp2_with (go_at_call 68; refine (c_laws_eqDueS _ _ _ _ _ _ _ (Hl.out _ ?h1) (Hm.out _ ?h2)).mono ?_; rotate_right; rintro en w' ⟨rfl, hb⟩)
  all_goals (try ((repeat (first | with_reducible exact Below.refl _ _ | ((with_reducible refine bl_alloc ?_ ?_); (focus (first | (simp; done) | (simp; omega) | omega))) | ((with_reducible refine bl_set ?_ ?_); (focus (first | (simp; done) | (simp; omega) | omega))) | ((with_reducible refine bl_later ?_ ?_); (focus (first | (simp; done) | (simp; omega) | omega))) | with_reducible refine bl_drew ?_ | with_reducible refine bl_drewN ?_ | ((with_reducible refine bl_step (by assumption) ?_ ?_); (focus (first | (simp; done) | (simp; omega) | omega))))); done))
  all_goals go_ret
  all_goals (go_light; refine ⟨by simp_all, ?_⟩; (repeat (first | with_reducible exact Below.refl _ _ | ((with_reducible refine bl_alloc ?_ ?_); (focus (first | (simp; done) | (simp; omega) | omega))) | ((with_reducible refine bl_set ?_ ?_); (focus (first | (simp; done) | (simp; omega) | omega))) | ((with_reducible refine bl_later ?_ ?_); (focus (first | (simp; done) | (simp; omega) | omega))) | with_reducible refine bl_drew ?_ | with_reducible refine bl_drewN ?_ | ((with_reducible refine bl_step (by assumption) ?_ ?_); (focus (first | (simp; done) | (simp; omega) | omega))))))

/-- block b holds these cells -/
def Bx (w : World) (b : Nat) (L : List Value) : Prop := b < w.heap.size ∧ ∀ o, w.cell? ⟨b, o, none⟩ = L[o]?
theorem Bx.new (w : World) (L : List Value) (ty : TypeId) : Bx (w.alloc (.cells L.toArray ty)) w.heap.size L := by
  refine ⟨by simp, fun o => ?_⟩
  rw [World.cell?_alloc_new]
  simp
theorem Bx.alloc {w : World} {b : Nat} {L : List Value} (h : Bx w b L) (o : Obj) : Bx (w.alloc o) b L := by
  refine ⟨by simp; have := h.1; omega, fun i => (World.cell?_alloc_lt _ _ _ h.1).trans (h.2 i)⟩
theorem Bx.below {w w' : World} {b : Nat} {L : List Value} (h : Bx w b L) (hb : Below w.heap.size w w') : Bx w' b L :=
  ⟨Nat.lt_of_lt_of_le h.1 hb.size, fun i => (hb.cell (p := ⟨b, i, none⟩) h.1).trans (h.2 i)⟩
theorem Bx.drew {w : World} {b : Nat} {L : List Value} (h : Bx w b L) : Bx w.drew b L := h

theorem c_law_JobsOk2 (i t h e u : Int) (ao : Option Addr) (cap : Nat) (l : List (Int × Int)) (w : World) (hl : ReadA dueE w ao l) :
    Calls Try.prog 10 #[.agg #[.int .i64 i, .int .i64 t, .int .i64 h, .int .i64 e, .int .i64 u, .slice ao l.length cap]] w fun en w' => en = .returned (.bool true) ∧ Below w.heap.size w w' := by
  have hm := hl.2.1
  have Hl : Hid (∀ W, Below w.heap.size w W → ReadA dueE W ao l) := fun W hb => hl.below hb
  clear hl
  by_cases hlt : (1048576 : Int) - l.length < 0
  · have hs := szB_neg hlt
    have hd : decide (szB 1048576 l.length < 0) = true := by rw [hs]; rfl
    clear hs
    go_enter Try.func10, Try.ntmps10
    go_wp2_with (go_at_call 34; refine (c_laws_szJobs _ _ _ _ _ _ _ _ _ _ (by omega) (by omega) hm).mono ?_; rintro e w' ⟨rfl, hb⟩)
    all_goals go_ret
    all_goals (refine ⟨rfl, ?_⟩; (repeat (first | with_reducible exact Below.refl _ _ | ((with_reducible refine bl_alloc ?_ ?_); (focus (first | (simp; done) | (simp; omega) | omega))) | ((with_reducible refine bl_set ?_ ?_); (focus (first | (simp; done) | (simp; omega) | omega))) | ((with_reducible refine bl_later ?_ ?_); (focus (first | (simp; done) | (simp; omega) | omega))) | with_reducible refine bl_drew ?_ | with_reducible refine bl_drewN ?_ | ((with_reducible refine bl_step (by assumption) ?_ ?_); (focus (first | (simp; done) | (simp; omega) | omega))))))
  · have hs := szB_pos hlt
    have Hs := Lib.hid hs
    clear hs
    have hd : decide (szB 1048576 l.length < 0) = false := by rw [Hs.out]; simp; omega
    have hsm : l.length ≤ 1099511627776 := by omega
    go_enter Try.func10, Try.ntmps10
    go_wp2_with fail
    have Bt := Bx.new w [.int .i64 i, .int .i64 t, .int .i64 h, .int .i64 e, .int .i64 u, .slice ao l.length cap] 72
    have hb0 : Below w.heap.size w (w.alloc (.cells [.int .i64 i, .int .i64 t, .int .i64 h, .int .i64 e, .int .i64 u, .slice ao l.length cap].toArray 72)) := by (repeat (first | with_reducible exact Below.refl _ _ | ((with_reducible refine bl_alloc ?_ ?_); (focus (first | (simp; done) | (simp; omega) | omega))) | ((with_reducible refine bl_set ?_ ?_); (focus (first | (simp; done) | (simp; omega) | omega))) | ((with_reducible refine bl_later ?_ ?_); (focus (first | (simp; done) | (simp; omega) | omega))) | with_reducible refine bl_drew ?_ | with_reducible refine bl_drewN ?_ | ((with_reducible refine bl_step (by assumption) ?_ ?_); (focus (first | (simp; done) | (simp; omega) | omega)))))
    refine (c_laws_szJobs _ _ _ _ _ _ _ _ _ _ (by omega) (by omega) hm).mono ?_
    rintro en w1 ⟨rfl, hb1⟩
    replace Bt := Bt.below hb1
    replace hb0 := bl_step hb1 hb0.size hb0
    clear hb1
    have hcell := Bt.2
    go_wp2_with fail
    refine (c_laws_toJobs _ _ _ _ _ _ _ _ _ (Hl.out _ hb0) hsm).mono ?_
    rintro en w2 ⟨a2, c2, rfl, ho2, hb2⟩
    go_wp2_with fail
    refine (c_spec_JobsOk2 _ _ _ _ _ _ _ _ _ ho2.read).mono ?_
    rintro en w3 ⟨rfl, hb3⟩
    replace Bt := (Bt.below hb2).below hb3
    replace hb0 := bl_step hb3 (Nat.le_trans hb0.size hb2.size) (bl_step hb2 hb0.size hb0)
    clear hb2 hb3 ho2 hcell
    have hcell := Bt.2
    go_wp2_with fail
    refine (c_laws_toJobs _ _ _ _ _ _ _ _ _ (Hl.out _ hb0) hsm).mono ?_
    rintro en w4 ⟨a4, c4, rfl, ho4, hb4⟩
    replace Bt := Bt.below hb4
    replace hb0 := bl_step hb4 hb0.size hb0
    clear hb4 hcell
    have B5 := Bx.new w4 [.int .i64 i, .int .i64 t, .int .i64 h, .int .i64 e, .int .i64 u, .slice a4 l.length c4] 77
    replace Bt := Bt.alloc (.cells ([.int .i64 i, .int .i64 t, .int .i64 h, .int .i64 e, .int .i64 u, .slice a4 l.length c4] : List Value).toArray 77)
    replace ho4 := ho4.below ((Below.refl _ w4).alloc (Nat.le_refl _) (.cells ([.int .i64 i, .int .i64 t, .int .i64 h, .int .i64 e, .int .i64 u, .slice a4 l.length c4] : List Value).toArray 77))
    replace hb0 := hb0.alloc hb0.size (.cells ([.int .i64 i, .int .i64 t, .int .i64 h, .int .i64 e, .int .i64 u, .slice a4 l.length c4] : List Value).toArray 77)
    go_wp2_with fail
    refine (c_impl_JobsOk2 _ _ _ _ _ _ _ _ _ ho4.read).mono ?_
    rintro en w6 ⟨rfl, hb6⟩
    replace Bt := Bt.below hb6
    replace B5 := B5.below hb6
    replace ho4 := ho4.below hb6
    replace hb0 := bl_step hb6 hb0.size hb0
    clear hb6
    have hk := hb0.size
    go_wp2_with fail
    go_region_held3 (fun W' => (∀ o, W'.cell? ⟨w.heap.size, o, none⟩ = ([.int .i64 i, .int .i64 t, .int .i64 h, .int .i64 e, .int .i64 u, .slice ao l.length cap] : List Value)[o]?) ∧ (∀ o, W'.cell? ⟨w4.heap.size, o, none⟩ = ([.int .i64 i, .int .i64 t, .int .i64 h, .int .i64 e, .int .i64 u, .slice a4 l.length c4] : List Value)[o]?)) (first | exact ⟨Bt.2, B5.2⟩ | exact ⟨((Bt.drew.below hb7).below hb8).2, ((B5.drew.below hb7).below hb8).2⟩ | exact ⟨(Bt.drew.below hb7).2, (B5.drew.below hb7).2⟩) (first | (go_at_call 36; refine (c_laws_toJobs _ _ _ _ _ _ _ _ _ (Hl.out _ (hb0.drew)) hsm).mono ?_; rintro en w7 ⟨a7, c7, rfl, ho7, hb7⟩) | (go_at_call 38; refine (c_laws_eqJobs _ _ _ _ _ _ _ _ _ _ _ _ _ _ _ _ _ ((ho4.read.below (Below.refl _ _).drew).below hb7) ho7.read).mono ?_; rintro en w8 ⟨rfl, hb8⟩))
    go_wp2_with fail
    go_ret
    have hk7 := hb7.size
    exact ⟨by simp, bl_step hb8 (Nat.le_trans hk hk7) (bl_step hb7 hk hb0.drew)⟩
end Go.Proofs.Ytbnmbgfpbagndaa
