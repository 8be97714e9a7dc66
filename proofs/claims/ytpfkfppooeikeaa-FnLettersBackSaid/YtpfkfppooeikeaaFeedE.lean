/- Walks of functions of the program, printed by a program of the prover. -/
import Derived.Test.YtpfkfppooeikeaaFeedF
import Derived.Test.YtpfkfppooeikeaaIface
import Derived.WalkKit
import Derived.WalkSpells
import Derived.Deep.QuietTactic
import Derived.BigQuiet
import Derived.Deep.Light
import Derived.Lib.Hide
import Derived.Deep.RegionHeld3
namespace Go.Proofs.Ytpfkfppooeikeaa
open Go.ChangeShapes Go.WideShapes Go.ChangeAt Go.RowKit Go.Deep
set_option maxHeartbeats 1600000
set_option maxRecDepth 100000

theorem c_kindOf_Feed (bs la : Int) (ao : Option Addr) (cap : Nat) (l : List (Int × Int × Int × Int × Int × Int × Int × Int × Int)) (w : World) : Calls Try.prog 149 #[.iface 44 (.agg #[.int .i64 bs, .int .i64 la, .slice ao l.length cap])] w fun e w' => e = .returned (.int .i64 4) ∧ w = w' := by
  have n_Ask := ta_Ask 44 (by decide)
  have n_Ack := ta_Ack 44 (by decide)
  have n_fetch := ta_fetch 44 (by decide)
  have yes := @ta_yes Try.prog 44 179 _ Try.underlying44 rfl
  go_enter Try.func149, Try.ntmps149
  go_wp2
  go_ret
  exact ⟨rfl, rfl⟩
theorem c_Feed_valid (bs la : Int) (ao : Option Addr) (cap : Nat) (l : List (Int × Int × Int × Int × Int × Int × Int × Int × Int)) (w : World) (hl : ReadA entryE w ao l) : Calls Try.prog 197 #[.agg #[.int .i64 bs, .int .i64 la, .slice ao l.length cap]] w fun e w' => e = .returned (.bool (feedOk bs la l)) ∧ Below w.heap.size w w' := by
  have Hl : Hid (∀ W, Below w.heap.size w W → ReadA entryE W ao l) := fun W hb => hl.below hb
  go_enter Try.func197, Try.ntmps197
  go_wp2_with (go_at_call 47; refine (c_impl_FeedOk _ _ _ _ _ _ (Hl.out _ (by (repeat (first | with_reducible exact Below.refl _ _ | ((with_reducible refine bl_alloc ?_ ?_); (focus (first | (simp; done) | (simp; omega) | omega))) | ((with_reducible refine bl_set ?_ ?_); (focus (first | (simp; done) | (simp; omega) | omega))) | ((with_reducible refine bl_later ?_ ?_); (focus (first | (simp; done) | (simp; omega) | omega))) | with_reducible refine bl_drew ?_ | with_reducible refine bl_drewN ?_ | ((with_reducible refine bl_step (by assumption) ?_ ?_); (focus (first | (simp; done) | (simp; omega) | omega)))))))).mono ?_; rintro e w1 ⟨rfl, hb1⟩; have hBx := (Bx.new w _ 44).below hb1; have hw1 : Below w.heap.size w w1 := bl_step hb1 (by simp) ((Below.refl _ w).alloc (Nat.le_refl _) _); have hsz1 := hb1.size; (try simp only [World.size_alloc] at hsz1); have hc := hBx.2; clear hb1)
  go_ret
  exact ⟨rfl, by (repeat (first | with_reducible exact Below.refl _ _ | ((with_reducible refine bl_alloc ?_ ?_); (focus (first | (simp; done) | (simp; omega) | omega))) | ((with_reducible refine bl_set ?_ ?_); (focus (first | (simp; done) | (simp; omega) | omega))) | ((with_reducible refine bl_later ?_ ?_); (focus (first | (simp; done) | (simp; omega) | omega))) | with_reducible refine bl_drew ?_ | with_reducible refine bl_drewN ?_ | ((with_reducible refine bl_step (by assumption) ?_ ?_); (focus (first | (simp; done) | (simp; omega) | omega)))))⟩
theorem c_encoded_Feed (bs la : Int) (ao : Option Addr) (cap : Nat) (l : List (Int × Int × Int × Int × Int × Int × Int × Int × Int)) (w : World) (ybs : inI64 bs) (yla : inI64 la) (hl : ReadA entryE w ao l) : Calls Try.prog 97 #[.iface 44 (.agg #[.int .i64 bs, .int .i64 la, .slice ao l.length cap])] w (RetI w 2 (rowFeed bs la l)) := by
  obtain ⟨i0, hi, hz0, hz1, hz2⟩ := info_parts info_int64
  have Hl : Hid (∀ W, Below w.heap.size w W → ReadA entryE W ao l) := fun W hb => hl.below hb
  cases hE : (feedOk bs la l)
  all_goals
    go_enter Try.func97, Try.ntmps97
    go_wp2_with fail
    rw [run_method_direct (f := 197)]
    rotate_left
    · kernel_rfl
    go_wp2_with fail
    refine (c_Feed_valid _ _ _ _ _ _ hl).mono ?_
    rintro e w1 ⟨rfl, hb1⟩
    have hs1 := hb1.size
    rw [hE]
    go_wp2_with fail
  · rw [rowFeed_f hE]
    go_ret
    exact ⟨_, _, rfl, owns_nil w1 _ _, hb1⟩
  · have hs : l.length ≤ 1000 := (by simp only [feedOk, Bool.and_eq_true, decide_eq_true_eq] at hE; have h7 := hE.2.2.1; omega)
    refine (c_kindOf_Feed _ _ _ _ _ _).mono ?_
    rintro e w1 ⟨rfl, rfl⟩
    go_wp2_with fail
    rw [run_method_direct (f := 196)]
    rotate_left
    · kernel_rfl
    go_wp2_with fail
    refine (c_Feed_fields _ _ _ _ _ _ ybs yla (Hl.out _ (by (repeat (first | with_reducible exact Below.refl _ _ | ((with_reducible refine bl_alloc ?_ ?_); (focus (first | (simp; done) | (simp; omega) | omega))) | ((with_reducible refine bl_set ?_ ?_); (focus (first | (simp; done) | (simp; omega) | omega))) | ((with_reducible refine bl_later ?_ ?_); (focus (first | (simp; done) | (simp; omega) | omega))) | with_reducible refine bl_drew ?_ | with_reducible refine bl_drewN ?_ | ((with_reducible refine bl_step (by assumption) ?_ ?_); (focus (first | (simp; done) | (simp; omega) | omega))))))) hs).mono ?_
    rintro e w2 ⟨a2, c2, rfl, ho2, hb2⟩
    have ho1 := (owns_lit w1 w.heap.size 2 [4] hs1 (by simp) (by simp [inI64]))
    have Ho1 : Hid (IntsO w2 w.heap.size 2 (.slice (some ⟨w1.heap.size, 0, none⟩) [(4 : Int)].length 1) [4]) := ⟨ho1.1, ho1.2.1, owns_below ho1.2.2 hb2⟩
    have Ho2 := Lib.hid ho2.read
    have hz := hb2.size
    clear ho1 ho2
    have Hlf : Hid ((fieldsFeed bs la l).length = 2 + l.length * 9) := by rw [Hid, fieldsFeed, List.length_append, length_flat len_entryNums]; rfl
    go_wp2_with (at_builtin; refine wpList_append_ints rfl _ _ _ rfl w.heap.size 2 i0 Try.underlying22 hi hz0 hz1 hz2 _ _ _ _ [4] (fieldsFeed bs la l) rfl Ho1.out rfl Ho2.out (by have h7 := Hlf.out; simp only [List.length_cons, List.length_nil] at h7 ⊢; omega) (by simp at hz; omega) (fun a3 c3 w3 ho3 hg3 => ?_))
    go_ret
    rw [rowFeed_t hE]
    exact ⟨a3, c3, rfl, ho3, (bl_step hb2 (by simp; omega) (by (repeat (first | with_reducible exact Below.refl _ _ | ((with_reducible refine bl_alloc ?_ ?_); (focus (first | (simp; done) | (simp; omega) | omega))) | ((with_reducible refine bl_set ?_ ?_); (focus (first | (simp; done) | (simp; omega) | omega))) | ((with_reducible refine bl_later ?_ ?_); (focus (first | (simp; done) | (simp; omega) | omega))) | with_reducible refine bl_drew ?_ | with_reducible refine bl_drewN ?_ | ((with_reducible refine bl_step (by assumption) ?_ ?_); (focus (first | (simp; done) | (simp; omega) | omega))))))).grown hg3 (by simp at hz; omega) (by simp [Value.ownBlock]; omega)⟩
theorem c_impl_FeedRow (bs la : Int) (ao : Option Addr) (cap : Nat) (l : List (Int × Int × Int × Int × Int × Int × Int × Int × Int)) (w : World) (ybs : inI64 bs) (yla : inI64 la) (hl : ReadA entryE w ao l) : Calls Try.prog 58 #[.agg #[.int .i64 bs, .int .i64 la, .slice ao l.length cap]] w (RetI w 2 (rowFeed bs la l)) := by
  go_enter Try.func58, Try.ntmps58
  go_wp2_with fail
  refine (c_encoded_Feed _ _ _ _ _ _ ybs yla (hl.below (by (repeat (first | with_reducible exact Below.refl _ _ | ((with_reducible refine bl_alloc ?_ ?_); (focus (first | (simp; done) | (simp; omega) | omega))) | ((with_reducible refine bl_set ?_ ?_); (focus (first | (simp; done) | (simp; omega) | omega))) | ((with_reducible refine bl_later ?_ ?_); (focus (first | (simp; done) | (simp; omega) | omega))) | with_reducible refine bl_drew ?_ | with_reducible refine bl_drewN ?_ | ((with_reducible refine bl_step (by assumption) ?_ ?_); (focus (first | (simp; done) | (simp; omega) | omega)))))))).mono ?_
  rintro e w1 ⟨a1, c1, rfl, ho1, hb1⟩
  go_wp2_with fail
  go_ret
  exact ⟨a1, c1, rfl, ho1.lower (by simp), bl_step hb1 (by simp) (by (repeat (first | with_reducible exact Below.refl _ _ | ((with_reducible refine bl_alloc ?_ ?_); (focus (first | (simp; done) | (simp; omega) | omega))) | ((with_reducible refine bl_set ?_ ?_); (focus (first | (simp; done) | (simp; omega) | omega))) | ((with_reducible refine bl_later ?_ ?_); (focus (first | (simp; done) | (simp; omega) | omega))) | with_reducible refine bl_drew ?_ | with_reducible refine bl_drewN ?_ | ((with_reducible refine bl_step (by assumption) ?_ ?_); (focus (first | (simp; done) | (simp; omega) | omega))))))⟩

end Go.Proofs.Ytpfkfppooeikeaa
