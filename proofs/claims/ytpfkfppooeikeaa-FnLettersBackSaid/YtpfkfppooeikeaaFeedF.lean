/- Walks of functions of the program, printed by a program of the prover. -/
import Derived.Test.YtpfkfppooeikeaaFeedB
import Derived.Test.YtpfkfppooeikeaaNums
import Derived.Test.YtpfkfppooeikeaaAcc
import Derived.Test.YtpfkfppooeikeaaOne
import Derived.WalkKit
import Derived.WalkSpells
import Derived.Deep.QuietTactic
import Derived.BigQuiet
import Derived.Deep.Light
import Derived.Lib.Hide
import Derived.Deep.RegionHeld3
namespace Go.Proofs.Ytpfkfppooeikeaa
open Go.ChangeShapes Go.WideShapes Go.ChangeAt Go.RowKit Go.Deep
set_option maxHeartbeats 1600000
set_option maxRecDepth 100000

def entryNums (d : Int × Int × Int × Int × Int × Int × Int × Int × Int) : List Int := [d.1, d.2.1, d.2.2.1, d.2.2.2.1, d.2.2.2.2.1, d.2.2.2.2.2.1, d.2.2.2.2.2.2.1, d.2.2.2.2.2.2.2.1, d.2.2.2.2.2.2.2.2]
theorem len_entryNums (d : Int × Int × Int × Int × Int × Int × Int × Int × Int) : (entryNums d).length = 9 := rfl
theorem entryNums_ok {d : Int × Int × Int × Int × Int × Int × Int × Int × Int} (h : entryE.ok d) : ∀ x ∈ entryNums d, inI64 x := by
  simp only [entryNums, List.mem_cons, List.not_mem_nil, or_false]
  rintro x (rfl | rfl | rfl | rfl | rfl | rfl | rfl | rfl | rfl) <;> simp_all [entryE]
def fieldsFeed (bs la : Int) (l : List (Int × Int × Int × Int × Int × Int × Int × Int × Int)) : List Int := [bs, la] ++ l.flatMap entryNums
def rowFeed (bs la : Int) (l : List (Int × Int × Int × Int × Int × Int × Int × Int × Int)) : List Int := if feedOk bs la l then [4, bs, la] ++ l.flatMap entryNums else []
theorem rowFeed_t {bs la : Int} {l : List (Int × Int × Int × Int × Int × Int × Int × Int × Int)} (h9 : (feedOk bs la l) = true) : rowFeed bs la l = [4, bs, la] ++ l.flatMap entryNums := by unfold rowFeed; rw [h9]; rfl
theorem rowFeed_f {bs la : Int} {l : List (Int × Int × Int × Int × Int × Int × Int × Int × Int)} (h9 : (feedOk bs la l) = false) : rowFeed bs la l = [] := by unfold rowFeed; rw [h9]; rfl
theorem c_Feed_fields (bs la : Int) (ao : Option Addr) (cap : Nat) (l : List (Int × Int × Int × Int × Int × Int × Int × Int × Int)) (w : World) (ybs : inI64 bs) (yla : inI64 la) (hl : ReadA entryE w ao l) (hs : l.length ≤ 1000) : Calls Try.prog 196 #[.agg #[.int .i64 bs, .int .i64 la, .slice ao l.length cap]] w (RetI w 2 (fieldsFeed bs la l)) := by
  have hm := hl.2.1
  obtain ⟨i0, hi, hz0, hz1, hz2⟩ := info_parts info_int64
  have Hlen : Hid (∀ k, k ≤ l.length → (accL [bs, la] entryNums l k).length = 2 + k * 9) := fun k hk => by rw [length_accL len_entryNums _ _ hk]; rfl
  have hst := owns_lit (w.alloc (.cells ([.int .i64 bs, .int .i64 la, .slice ao l.length cap] : List Value).toArray 44)) (w.heap.size + 1) 2 [bs, la] (by simp) (by simp) (by simp [ybs, yla])
  rw [World.size_alloc] at hst
  have Hst := Lib.hid hst
  clear hst
  go_enter Try.func196, Try.ntmps196
  go_wp2
  go_loopw [3, 14] (fun v i wr => ∃ (k : Nat) (ao' : Option Addr) (cap' : Nat), k ≤ l.length ∧ i = .int .i64 k ∧ v = .slice ao' (accL [bs, la] entryNums l k).length cap' ∧ Hid (IntsO wr (w.heap.size + 1) 2 (.slice ao' (accL [bs, la] entryNums l k).length cap') (accL [bs, la] entryNums l k)) ∧ Below w.heap.size w wr) (fun _ i _ => l.length - (intOf i).toNat)
  case atStart => exact ⟨0, _, _, Nat.zero_le _, rfl, by rw [accL_zero]; rfl, by rw [accL_zero]; exact Hst.out, by (repeat (first | with_reducible exact Below.refl _ _ | ((with_reducible refine bl_alloc ?_ ?_); (focus (first | (simp; done) | (simp; omega) | omega))) | ((with_reducible refine bl_set ?_ ?_); (focus (first | (simp; done) | (simp; omega) | omega))) | ((with_reducible refine bl_later ?_ ?_); (focus (first | (simp; done) | (simp; omega) | omega))) | with_reducible refine bl_drew ?_ | with_reducible refine bl_drewN ?_ | ((with_reducible refine bl_step (by assumption) ?_ ?_); (focus (first | (simp; done) | (simp; omega) | omega)))))⟩
  case round =>
    obtain ⟨k, ao', cap', hk, rfl, rfl, Hown, hbel⟩ := hrel
    by_cases hlt : k < l.length
    · obtain ⟨b, off, rfl, hbl, hc⟩ := entry_at hl hlt
      have hbw := Nat.lt_of_lt_of_le hbl hbel.size
      have ck0 : _ := (hbel.cell (p := ⟨b, off + k * 9, none⟩) hbl).trans (hc k hlt).1
      have ck1 : _ := (hbel.cell (p := ⟨b, off + k * 9 + 1, none⟩) hbl).trans (hc k hlt).2.1
      have ck2 : _ := (hbel.cell (p := ⟨b, off + k * 9 + 2, none⟩) hbl).trans (hc k hlt).2.2.1
      have ck3 : _ := (hbel.cell (p := ⟨b, off + k * 9 + 3, none⟩) hbl).trans (hc k hlt).2.2.2.1
      have ck4 : _ := (hbel.cell (p := ⟨b, off + k * 9 + 4, none⟩) hbl).trans (hc k hlt).2.2.2.2.1
      have ck5 : _ := (hbel.cell (p := ⟨b, off + k * 9 + 5, none⟩) hbl).trans (hc k hlt).2.2.2.2.2.1
      have ck6 : _ := (hbel.cell (p := ⟨b, off + k * 9 + 6, none⟩) hbl).trans (hc k hlt).2.2.2.2.2.2.1
      have ck7 : _ := (hbel.cell (p := ⟨b, off + k * 9 + 7, none⟩) hbl).trans (hc k hlt).2.2.2.2.2.2.2.1
      have ck8 : _ := (hbel.cell (p := ⟨b, off + k * 9 + 8, none⟩) hbl).trans (hc k hlt).2.2.2.2.2.2.2.2
      clear hc
      have hsz := hbel.size
      have hlk := Hlen.out k hk
      have hlo := Hown.out.2.2.1
      have Hapart := Lib.hid (own_apart Hown.out)
      have Hok : Hid (inI64 l[k].1 ∧ inI64 l[k].2.1 ∧ inI64 l[k].2.2.1 ∧ inI64 l[k].2.2.2.1 ∧ inI64 l[k].2.2.2.2.1 ∧ inI64 l[k].2.2.2.2.2.1 ∧ inI64 l[k].2.2.2.2.2.2.1 ∧ inI64 l[k].2.2.2.2.2.2.2.1 ∧ inI64 l[k].2.2.2.2.2.2.2.2) := hl.1 _ (List.getElem_mem hlt)
      have Hnok : Hid (∀ x ∈ entryNums l[k], inI64 x) := entryNums_ok (hl.1 _ (List.getElem_mem hlt))
      have hp : (k : Int) < l.length := by omega
      have Hlk := Lib.hid hlk
      clear hlk
      go_wp2_with (first | (at_builtin; refine wpList_append_ints rfl _ _ _ rfl (w.heap.size + 1) 2 i0 Try.underlying22 hi hz0 hz1 hz2 _ _ _ _ (accL [bs, la] entryNums l k) [l[k].1, l[k].2.1, l[k].2.2.1, l[k].2.2.2.1, l[k].2.2.2.2.1, l[k].2.2.2.2.2.1, l[k].2.2.2.2.2.2.1, l[k].2.2.2.2.2.2.2.1, l[k].2.2.2.2.2.2.2.2] rfl (Hown.out.below hbq) rfl ho4.read (by have h7 := Hlk.out; simp only [List.length_cons, List.length_nil]; omega) (by have := hbq.size; omega) (fun a3 c3 w3 ho3 hg3 => ?_)) | (go_at_call 198; refine (c_impl_Entry_numbers _ _ _ _ _ _ _ _ _ _ Hok.out.1 Hok.out.2.1 Hok.out.2.2.1 Hok.out.2.2.2.1 Hok.out.2.2.2.2.1 Hok.out.2.2.2.2.2.1 Hok.out.2.2.2.2.2.2.1 Hok.out.2.2.2.2.2.2.2.1 Hok.out.2.2.2.2.2.2.2.2).mono ?_; rintro e w4 ⟨a4, c4, rfl, ho4, hb4⟩; have hbq : Below wr.heap.size wr w4 := bl_step hb4 (by simp) ((Below.refl _ wr).alloc (Nat.le_refl _) _); have hz4 := hb4.size; simp only [World.size_alloc] at hz4; clear hb4))
      have hlk := Hlk.out
      go_roundw
      case rel => exact ⟨k + 1, a3, c3, by omega, by go_num, by rw [accL_succ _ _ _ hlt, List.length_append]; rfl, by rw [accL_succ _ _ _ hlt]; exact ho3, bl_grown hg3 (by have := hbel.size; omega) (fun k hk => Nat.le_trans (by simp) (Hapart.out k hk).1) (bl_step hbq hbel.size hbel)⟩
      case measure => simp [intOf]; omega
    · obtain rfl : k = l.length := by omega
      go_wp2
      go_ret
      exact ⟨_, _, by rw [accL_all]; rfl, by have h9 := Hown.out.lower (lo' := w.heap.size) (by simp); rw [accL_all] at h9; exact h9, hbel⟩

end Go.Proofs.Ytpfkfppooeikeaa
