/- Walks of functions of the program, printed by a program of the prover. -/
import Derived.Test.YtpfkfppooeikeaaEntS
import Derived.Test.YtpfkfppooeikeaaEntM
import Derived.Test.YtpfkfppooeikeaaEntH
import Derived.Test.YtpfkfppooeikeaaBx
import Derived.WalkKit
import Derived.WalkSpells
import Derived.Deep.QuietTactic
import Derived.BigQuiet
import Derived.Deep.Light
import Derived.Lib.Hide
import Derived.Deep.RegionHeld3
namespace Go.Proofs.Ytpfkfppooeikeaa
open Go.ChangeShapes Go.WideShapes Go.ChangeAt Go.RowKit Go.Deep
set_option maxHeartbeats 400000
set_option maxRecDepth 100000

theorem c_laws_szFeed (bs la : Int) (ao : Option Addr) (cap n : Nat) (left : Int) (w : World) (h0 : 0 ≤ left) (h1 : left ≤ 1048576) (hn : n ≤ 9223372036854775807) :
    Calls Try.prog 44 #[.agg #[.int .i64 bs, .int .i64 la, .slice ao n cap], .int .i64 left] w fun e' w' => e' = .returned (.int .i64 (szB left n)) ∧ Below w.heap.size w w' := by
  by_cases hlt : left - n < 0
  · have hs := szB_neg hlt
    have Hs := Lib.hid hs
    clear hs
    have hd : decide (szB left n < 0) = true := by rw [Hs.out]; rfl
    go_enter Try.func44, Try.ntmps44
    go_wp2_with (go_at_call 106; refine (c_laws_szEntryS _ _ _ _ _ h0 h1 hn).mono ?_; rintro e w' ⟨rfl, rfl⟩)
    all_goals go_ret
    all_goals (refine ⟨by rw [Hs.out]; rfl, ?_⟩; (repeat (first | with_reducible exact Below.refl _ _ | ((with_reducible refine bl_alloc ?_ ?_); (focus (first | (simp; done) | (simp; omega) | omega))) | ((with_reducible refine bl_set ?_ ?_); (focus (first | (simp; done) | (simp; omega) | omega))) | ((with_reducible refine bl_later ?_ ?_); (focus (first | (simp; done) | (simp; omega) | omega))) | with_reducible refine bl_drew ?_ | with_reducible refine bl_drewN ?_ | ((with_reducible refine bl_step (by assumption) ?_ ?_); (focus (first | (simp; done) | (simp; omega) | omega))))))
  · have hs := szB_pos hlt
    have Hs := Lib.hid hs
    clear hs
    have hd : decide (szB left n < 0) = false := by rw [Hs.out]; simp; omega
    go_enter Try.func44, Try.ntmps44
    go_wp2_with (go_at_call 106; refine (c_laws_szEntryS _ _ _ _ _ h0 h1 hn).mono ?_; rintro e w' ⟨rfl, rfl⟩)
    all_goals go_ret
    all_goals (refine ⟨rfl, ?_⟩; (repeat (first | with_reducible exact Below.refl _ _ | ((with_reducible refine bl_alloc ?_ ?_); (focus (first | (simp; done) | (simp; omega) | omega))) | ((with_reducible refine bl_set ?_ ?_); (focus (first | (simp; done) | (simp; omega) | omega))) | ((with_reducible refine bl_later ?_ ?_); (focus (first | (simp; done) | (simp; omega) | omega))) | with_reducible refine bl_drew ?_ | with_reducible refine bl_drewN ?_ | ((with_reducible refine bl_step (by assumption) ?_ ?_); (focus (first | (simp; done) | (simp; omega) | omega))))))

def RetFeed (w : World) (bs la : Int) (l : List (Int × Int × Int × Int × Int × Int × Int × Int × Int)) (en : Ending) (w' : World) : Prop :=
  ∃ (ao : Option Addr) (cap : Nat), en = .returned (.agg #[.int .i64 bs, .int .i64 la, .slice ao l.length cap]) ∧ OwnA entryE w' w.heap.size 70 (.slice ao l.length cap) l ∧ Below w.heap.size w w'

theorem c_laws_toFeed (bs la : Int) (ao : Option Addr) (cap : Nat) (l : List (Int × Int × Int × Int × Int × Int × Int × Int × Int)) (w : World) (hl : ReadA entryE w ao l) (hs : l.length ≤ 1099511627776) :
    Calls Try.prog 46 #[.agg #[.int .i64 bs, .int .i64 la, .slice ao l.length cap]] w (RetFeed w bs la l) := by
  have Hl : Hid (∀ W, Below w.heap.size w W → ReadA entryE W ao l) := fun W hb => hl.below hb
  clear hl
  go_enter Try.func46, Try.ntmps46
  go_wp2_with fail
  refine (c_laws_toEntryS _ _ _ _ (Hl.out _ (by (repeat (first | with_reducible exact Below.refl _ _ | ((with_reducible refine bl_alloc ?_ ?_); (focus (first | (simp; done) | (simp; omega) | omega))) | ((with_reducible refine bl_set ?_ ?_); (focus (first | (simp; done) | (simp; omega) | omega))) | ((with_reducible refine bl_later ?_ ?_); (focus (first | (simp; done) | (simp; omega) | omega))) | with_reducible refine bl_drew ?_ | with_reducible refine bl_drewN ?_ | ((with_reducible refine bl_step (by assumption) ?_ ?_); (focus (first | (simp; done) | (simp; omega) | omega))))))) hs).mono ?_
  rintro en w1 ⟨a1, c1, rfl, ho1, hb1⟩
  have hz1 := hb1.size
  simp at hz1
  have hc0 := fun (o : Nat) => hb1.cell (p := ⟨w.heap.size, o, none⟩) (by (first | (simp; done) | (simp; omega) | omega))
  have hc1 := fun (o : Nat) => hb1.cell (p := ⟨w.heap.size + 1, o, none⟩) (by (first | (simp; done) | (simp; omega) | omega))
  have hc2 := fun (o : Nat) => hb1.cell (p := ⟨w.heap.size + 1 + 1, o, none⟩) (by (first | (simp; done) | (simp; omega) | omega))
  have hf0 := fun (o : Nat) => hb1.frozen (p := ⟨w.heap.size, o, none⟩) (by (first | (simp; done) | (simp; omega) | omega))
  have hf1 := fun (o : Nat) => hb1.frozen (p := ⟨w.heap.size + 1, o, none⟩) (by (first | (simp; done) | (simp; omega) | omega))
  have hf2 := fun (o : Nat) => hb1.frozen (p := ⟨w.heap.size + 1 + 1, o, none⟩) (by (first | (simp; done) | (simp; omega) | omega))
  have Ho1 := Lib.hid ho1
  clear ho1
  go_wp2_with fail
  refine bodyPost_ret (v := .agg #[.int .i64 bs, .int .i64 la, .slice a1 l.length c1]) (by simp [results, Try.results46, go_sem, *]) rfl ⟨a1, c1, rfl, ?_, ?_⟩
  · refine OwnA.weak (lo := w.heap.size + 1 + 1 + 1) (by omega) ?_
    repeat (first | ((with_reducible refine OwnA.set ?_ ?_); (focus (first | (simp; done) | (simp; omega) | omega))))
    have := Ho1.out
    simpa using this
  · (repeat (first | with_reducible exact Below.refl _ _ | ((with_reducible refine bl_alloc ?_ ?_); (focus (first | (simp; done) | (simp; omega) | omega))) | ((with_reducible refine bl_set ?_ ?_); (focus (first | (simp; done) | (simp; omega) | omega))) | ((with_reducible refine bl_later ?_ ?_); (focus (first | (simp; done) | (simp; omega) | omega))) | with_reducible refine bl_drew ?_ | with_reducible refine bl_drewN ?_ | ((with_reducible refine bl_step (by assumption) ?_ ?_); (focus (first | (simp; done) | (simp; omega) | omega)))))

theorem c_laws_eqFeed_same (bs la : Int) (ao ao2 : Option Addr) (cap cap2 : Nat) (l : List (Int × Int × Int × Int × Int × Int × Int × Int × Int)) (w : World) (hl : ReadA entryE w ao l) (hm : ReadA entryE w ao2 l) :
    Calls Try.prog 48 #[.agg #[.int .i64 bs, .int .i64 la, .slice ao l.length cap], .agg #[.int .i64 bs, .int .i64 la, .slice ao2 l.length cap2]] w fun en w' => en = .returned (.bool true) ∧ Below w.heap.size w w' := by
  have Hl : Hid (∀ W, Below w.heap.size w W → ReadA entryE W ao l) := fun W hb => hl.below hb
  have Hm : Hid (∀ W, Below w.heap.size w W → ReadA entryE W ao2 l) := fun W hb => hm.below hb
  clear hl hm
  go_enter Try.func48, Try.ntmps48
  go_wp2_with (go_at_call 112; refine (c_laws_eqEntryS_same _ _ _ _ _ _ (Hl.out _ ?h1) (Hm.out _ ?h2)).mono ?_; rotate_right; rintro en w' ⟨rfl, hb⟩)
  all_goals (try ((repeat (first | with_reducible exact Below.refl _ _ | ((with_reducible refine bl_alloc ?_ ?_); (focus (first | (simp; done) | (simp; omega) | omega))) | ((with_reducible refine bl_set ?_ ?_); (focus (first | (simp; done) | (simp; omega) | omega))) | ((with_reducible refine bl_later ?_ ?_); (focus (first | (simp; done) | (simp; omega) | omega))) | with_reducible refine bl_drew ?_ | with_reducible refine bl_drewN ?_ | ((with_reducible refine bl_step (by assumption) ?_ ?_); (focus (first | (simp; done) | (simp; omega) | omega))))); done))
  all_goals go_ret
  all_goals (refine ⟨rfl, ?_⟩; (repeat (first | with_reducible exact Below.refl _ _ | ((with_reducible refine bl_alloc ?_ ?_); (focus (first | (simp; done) | (simp; omega) | omega))) | ((with_reducible refine bl_set ?_ ?_); (focus (first | (simp; done) | (simp; omega) | omega))) | ((with_reducible refine bl_later ?_ ?_); (focus (first | (simp; done) | (simp; omega) | omega))) | with_reducible refine bl_drew ?_ | with_reducible refine bl_drewN ?_ | ((with_reducible refine bl_step (by assumption) ?_ ?_); (focus (first | (simp; done) | (simp; omega) | omega))))))

theorem c_laws_markFeed (bs la : Int) (ao : Option Addr) (cap lo : Nat) (l : List (Int × Int × Int × Int × Int × Int × Int × Int × Int)) (k : Int) (w : World) (h : OwnA entryE w lo 70 (.slice ao l.length cap) l) (hk : 0 ≤ k) (hk2 : k ≤ 1099511627776) (hl : l.length ≤ 1099511627776) :
    Calls Try.prog 93 #[.agg #[.int .i64 bs, .int .i64 la, .slice ao l.length cap], .int .i64 k] w fun e w' => e = .returned (.int .i64 (k + 9 * l.length)) ∧ OwnA entryE w' lo 70 (.slice ao l.length cap) ((List.range l.length).map (entryMk k)) ∧ w.grownBy w' (Value.ownBlock (.slice ao l.length cap)) := by
  go_enter Try.func93, Try.ntmps93
  go_wp2_with fail
  refine (c_laws_markEntryS _ _ lo _ _ _ (h.below ((Below.refl _ _).alloc (Nat.le_refl _) _)) hk hk2 hl).mono ?_
  rintro e w2 ⟨rfl, ho2, hg2, hz2⟩
  have Hz2 := Lib.hid hz2
  clear hz2
  go_wp2_with fail
  go_ret
  exact ⟨rfl, ho2, (World.grownBy_alloc w _ _).trans hg2⟩

theorem c_laws_heldFeed (bs la : Int) (ao : Option Addr) (cap n : Nat) (k : Int) (w : World) (h : ReadA entryE w ao ((List.range n).map (entryMk k))) (hk : 0 ≤ k) (hk2 : k ≤ 1099511627776) (hl : n ≤ 1099511627776) :
    Calls Try.prog 95 #[.agg #[.int .i64 bs, .int .i64 la, .slice ao n cap], .int .i64 k] w fun e w' => e = .returned (.int .i64 (k + 9 * n)) ∧ Below w.heap.size w w' := by
  have hd : decide (k + 9 * (n : Int) < 0) = false := by simp; omega
  go_enter Try.func95, Try.ntmps95
  go_wp2_with fail
  refine (c_laws_heldEntryS _ _ _ _ _ (h.below ((Below.refl _ _).alloc (Nat.le_refl _) _)) hk hk2 hl).mono ?_
  rintro e w2 ⟨rfl, rfl⟩
  go_wp2_with fail
  go_ret
  exact ⟨rfl, by (repeat (first | with_reducible exact Below.refl _ _ | ((with_reducible refine bl_alloc ?_ ?_); (focus (first | (simp; done) | (simp; omega) | omega))) | ((with_reducible refine bl_set ?_ ?_); (focus (first | (simp; done) | (simp; omega) | omega))) | ((with_reducible refine bl_later ?_ ?_); (focus (first | (simp; done) | (simp; omega) | omega))) | with_reducible refine bl_drew ?_ | with_reducible refine bl_drewN ?_ | ((with_reducible refine bl_step (by assumption) ?_ ?_); (focus (first | (simp; done) | (simp; omega) | omega)))))⟩

end Go.Proofs.Ytpfkfppooeikeaa
