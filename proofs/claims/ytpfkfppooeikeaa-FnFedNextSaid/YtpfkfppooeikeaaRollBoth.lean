/- Walks of functions of the program, printed by a program of the prover. -/
import Derived.Test.YtpfkfppooeikeaaRollFeed
import Derived.WalkKit
import Derived.WalkSpells
import Derived.Deep.QuietTactic
import Derived.BigQuiet
import Derived.Deep.Light
import Derived.Lib.Hide
import Derived.Deep.RegionHeld3
namespace Go.Proofs.Ytpfkfppooeikeaa
open Go.ChangeShapes Go.WideShapes Go.ChangeAt Go.RowKit Go.Deep
set_option maxHeartbeats 1600000
set_option maxRecDepth 100000

theorem c_w9Both (ao1 ao2 : Option Addr) (cap1 cap2 : Nat) (l m : List (Int × Int × Int × Int × Int × Int × Int × Int × Int)) (w : World) (h1 : ReadA entryE w ao1 l) (h2 : ReadA entryE w ao2 m) (hl : l.length ≤ 1000000) (hm : m.length ≤ 1000000) :
    Calls Try.prog 59 #[.slice ao1 l.length cap1, .slice ao2 m.length cap2] w (RetA entryE w 70 (l ++ m)) := by
  obtain ⟨j0, hj, hj0, hj1, hj2⟩ := info_parts info_Entry
  have hOw : OwnA entryE (w.alloc (.cells #[] 70)) w.heap.size 70 (.slice (some ⟨w.heap.size, 0, none⟩) 0 0) [] := ⟨by simp, by simp, by have h7 := World.ownsRow_lit (base := w.heap.size) (e := 70) (size := entryE.n) w #[] 0 (Nat.le_refl _) (by unfold maxLen; omega) (by simp); simpa using h7⟩
  have HOw := Lib.hid hOw
  have H1 := Lib.hid (h1.below ((Below.refl _ _).alloc (Nat.le_refl _) (.cells #[] 70)))
  have H2 := Lib.hid h2
  have Hlt := Lib.hid HOw.out.2.2.lt
  clear hOw h1 h2
  go_enter Try.func59, Try.ntmps59
  go_wp2_with (first | (at_builtin; refine wpList_append_rows (E := entryE) rfl _ _ _ rfl w.heap.size 70 j0 (.agg #[.int .i64 0, .int .i64 0, .int .i64 0, .int .i64 0, .int .i64 0, .int .i64 0, .int .i64 0, .int .i64 0, .int .i64 0]) 72 Try.underlying42 hj hj0 hj1 hj2 rfl (by omega) entry_one _ _ _ _ l m rfl Ho6.out rfl Hm6.out (by omega) hz6 (fun a7 c7 w7 ho7 hg7 => ?_)) | (at_builtin; refine wpList_append_rows (E := entryE) rfl _ _ _ rfl w.heap.size 70 j0 (.agg #[.int .i64 0, .int .i64 0, .int .i64 0, .int .i64 0, .int .i64 0, .int .i64 0, .int .i64 0, .int .i64 0, .int .i64 0]) 72 Try.underlying42 hj hj0 hj1 hj2 rfl (by omega) entry_one _ _ _ _ [] l rfl HOw.out rfl H1.out (by simp only [List.length_nil]; omega) (by simp) (fun a5 c5 w5 ho5 hg5 => ?_); have Ho6 : Hid (OwnA entryE w5 w.heap.size 70 (.slice a5 l.length c5) l) := ho5; have hb6 : Below w.heap.size w w5 := bl_grown hg5 (by simp) (fun k hk => (Hlt.out k hk).1) ((Below.refl _ _).alloc (Nat.le_refl _) _); have hz6 := hb6.size; have Hm6 := Lib.hid (H2.out.below hb6); have Hlt6 := Lib.hid Ho6.out.2.2.lt; clear ho5 hg5))
  go_ret
  exact ⟨a7, c7, (by rw [List.length_append]; rfl), ho7, bl_grown hg7 hz6 (fun k hk => (Hlt6.out k hk).1) hb6⟩

end Go.Proofs.Ytpfkfppooeikeaa
