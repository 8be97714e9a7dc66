/- Walks of functions of the program, printed by a program of the prover. -/
import Derived.Test.YtmjafclpeknpcaaNCopy3
import Derived.WalkKit
import Derived.WalkSpells
import Derived.Deep.QuietTactic
import Derived.BigQuiet
import Derived.Deep.Light
import Derived.Lib.Hide
import Derived.IntWalk
namespace Go.Proofs.Ytmjafclpeknpcaa
open Go.ChangeShapes Go.WideShapes Go.ChangeAt Go.RowKit Go.Deep
set_option maxHeartbeats 1600000
set_option maxRecDepth 100000

theorem c_impl_copyTwo (ak aw bk bw : Option Addr) (ck cw dk dw : Nat) (d e : List (List Int) × List (Int × List Int)) (w : World) (h : DiskR w ak aw d) (h2 : DiskR w bk bw e) (hI : DiskB d) (hJ : DiskB e) :
    Calls Try.prog 86 #[.agg #[.slice ak d.1.length ck, .slice aw d.2.length cw, .slice bk e.1.length dk, .slice bw e.2.length dw]] w fun en w' => ∃ a1 c1 a2 c2 a3 c3 a4 c4, en = .returned (.agg #[.slice a1 d.1.length c1, .slice a2 d.2.length c2, .slice a3 e.1.length c3, .slice a4 e.2.length c4]) ∧ Sp twoO w' w.heap.size w'.heap.size (d, e) [.slice a1 d.1.length c1, .slice a2 d.2.length c2, .slice a3 e.1.length c3, .slice a4 e.2.length c4] ∧ Below w.heap.size w w' := by
  have HD : Hid (∀ V, Below w.heap.size w V → DiskR V ak aw d) := fun V hb => h.below hb
  have HE : Hid (∀ V, Below w.heap.size w V → DiskR V bk bw e) := fun V hb => h2.below hb
  clear h h2
  go_enter Try.func86, Try.ntmps86
  go_wp2_with fail
  refine restK_begin [7] (by kernel_rfl) ?_
  refine restK_take (v := ?_) 0 rfl (by kernel_rfl) (by kernel_rfl) (by kernel_rfl) (by kernel_rfl) (by kernel_rfl) (by kernel_rfl) (fun _ _ _ h => h) (by rfl) ?_ ?_
  rotate_left
  · intro w9 h9; try dsimp only at h9
    obtain ⟨x9, rfl⟩ := later_of h9
    go_simp; try with_reducible rfl
  try simp only [Act.put, List.setIfInBounds_toArray, List.set_cons_zero, List.set_cons_succ]
  refine restK_take (v := ?_) 1 rfl (by kernel_rfl) (by kernel_rfl) (by kernel_rfl) (by kernel_rfl) (by kernel_rfl) (by kernel_rfl) (fun _ _ _ h => h) (by rfl) ?_ ?_
  rotate_left
  · intro w9 h9; try dsimp only at h9
    obtain ⟨x9, rfl⟩ := later_of h9
    go_simp; try with_reducible rfl
  try simp only [Act.put, List.setIfInBounds_toArray, List.set_cons_zero, List.set_cons_succ]
  refine restK_take (v := ?_) 3 rfl (by kernel_rfl) (by kernel_rfl) (by kernel_rfl) (by kernel_rfl) (by kernel_rfl) (by kernel_rfl) (fun _ _ _ h => h) (by rfl) ?_ ?_
  rotate_left
  · intro w9 h9; try dsimp only at h9
    obtain ⟨x9, rfl⟩ := later_of h9
    go_simp; try with_reducible rfl
  try simp only [Act.put, List.setIfInBounds_toArray, List.set_cons_zero, List.set_cons_succ]
  refine restK_take (v := ?_) 4 rfl (by kernel_rfl) (by kernel_rfl) (by kernel_rfl) (by kernel_rfl) (by kernel_rfl) (by kernel_rfl) (fun _ _ _ h => h) (by rfl) ?_ ?_
  rotate_left
  · intro w9 h9; try dsimp only at h9
    obtain ⟨x9, rfl⟩ := later_of h9
    go_simp; try with_reducible rfl
  try simp only [Act.put, List.setIfInBounds_toArray, List.set_cons_zero, List.set_cons_succ]
  refine restK_alone 2 rfl (by kernel_rfl) (by rfl) (fun hS K hK => ?_)
  go_wp2_with fail
  refine (c_impl_copyDisk ak aw ck cw d _ (HD.out _ (by (repeat (first | with_reducible exact Below.refl _ _ | ((with_reducible refine bl_alloc ?_ ?_); (focus (first | (simp; done) | (simp; omega) | omega))) | ((with_reducible refine bl_set ?_ ?_); (focus (first | (simp; done) | (simp; omega) | omega))) | ((with_reducible refine bl_later ?_ ?_); (focus (first | (simp; done) | (simp; omega) | omega))) | with_reducible refine bl_drew ?_ | with_reducible refine bl_drewN ?_ | ((with_reducible refine bl_step (by assumption) ?_ ?_); (focus (first | (simp; done) | (simp; omega) | omega))))))) hI).mono ?_
  rintro en w5 ⟨a1, c1, a2, c2, rfl, hs5, hb5⟩
  have hS5 := bl_step hb5 hS.size hS
  have hz5 := hb5.size
  simp only [World.size_drew, World.size_alloc] at hz5 hs5
  have Hs5 := Lib.hid hs5
  clear hs5
  refine hK.out _ _ (hS5) ?_
  try simp only [Act.put, List.setIfInBounds_toArray, List.set_cons_zero, List.set_cons_succ]
  clear hK K hS
  clear hb5
  refine restK_alone 5 rfl (by kernel_rfl) (by rfl) (fun hS K hK => ?_)
  go_wp2_with fail
  refine (c_impl_copyDisk bk bw dk dw e _ (HE.out _ (by (repeat (first | with_reducible exact Below.refl _ _ | ((with_reducible refine bl_alloc ?_ ?_); (focus (first | (simp; done) | (simp; omega) | omega))) | ((with_reducible refine bl_set ?_ ?_); (focus (first | (simp; done) | (simp; omega) | omega))) | ((with_reducible refine bl_later ?_ ?_); (focus (first | (simp; done) | (simp; omega) | omega))) | with_reducible refine bl_drew ?_ | with_reducible refine bl_drewN ?_ | ((with_reducible refine bl_step (by assumption) ?_ ?_); (focus (first | (simp; done) | (simp; omega) | omega))))))) hJ).mono ?_
  rintro en w6 ⟨a3, c3, a4, c4, rfl, hs6, hb6⟩
  have hS6 := bl_step hb6 hS.size hS
  have hz6 := hb6.size
  have Hs6 := Lib.hid hs6
  replace Hs5 := Lib.hid (Hs5.out.kp (kp_of_below hb6 (Nat.le_refl _)))
  clear hs6
  refine hK.out _ _ (hS6) ?_
  try simp only [Act.put, List.setIfInBounds_toArray, List.set_cons_zero, List.set_cons_succ]
  clear hK K hS
  clear hb6
  refine restK_take (v := ?_) 6 rfl (by kernel_rfl) (by kernel_rfl) (by kernel_rfl) (by kernel_rfl) (by kernel_rfl) (by kernel_rfl) (fun _ _ _ h => h) (by rfl) ?_ ?_
  rotate_left
  · intro w9 h9; try dsimp only at h9
    obtain ⟨x9, rfl⟩ := later_of h9
    go_simp; try with_reducible rfl
  try simp only [Act.put, List.setIfInBounds_toArray, List.set_cons_zero, List.set_cons_succ]
  refine restK_break 7 rfl (by kernel_rfl) (by rfl) (by kernel_rfl) (fun hS K hK => ?_)
  have hck0 := fun (o : Nat) => hS6.cell (p := ⟨w.heap.size + 1, o, none⟩) (by (first | (simp; done) | (simp; omega) | omega))
  have hfk0 := fun (o : Nat) => hS6.frozen (p := ⟨w.heap.size + 1, o, none⟩) (by (first | (simp; done) | (simp; omega) | omega))
  have hBw : Below w.heap.size w w6 := by (repeat (first | with_reducible exact Below.refl _ _ | ((with_reducible refine bl_alloc ?_ ?_); (focus (first | (simp; done) | (simp; omega) | omega))) | ((with_reducible refine bl_set ?_ ?_); (focus (first | (simp; done) | (simp; omega) | omega))) | ((with_reducible refine bl_later ?_ ?_); (focus (first | (simp; done) | (simp; omega) | omega))) | with_reducible refine bl_drew ?_ | with_reducible refine bl_drewN ?_ | ((with_reducible refine bl_step (by assumption) ?_ ?_); (focus (first | (simp; done) | (simp; omega) | omega)))))
  go_wp2_with fail
  refine hK.out _ _ trivial ?_
  try simp only [Act.put, List.setIfInBounds_toArray, List.set_cons_zero, List.set_cons_succ]
  clear hK K hS
  refine rest_done (by kernel_rfl) ?_
  go_wp2_with fail
  refine bodyPost_ret (v := .agg #[.slice a1 d.1.length c1, .slice a2 d.2.length c2, .slice a3 e.1.length c3, .slice a4 e.2.length c4]) (by simp [results, Try.results86, go_sem, *]) rfl ⟨a1, c1, a2, c2, a3, c3, a4, c4, rfl, ?_, ?_⟩
  · refine Sp.wide (lo := w.heap.size + 1 + 1) (hi := w6.heap.size) (Sp.pair (mid := w5.heap.size) (mid' := w5.heap.size) (va := [.slice a1 d.1.length c1, .slice a2 d.2.length c2]) (vb := [.slice a3 e.1.length c3, .slice a4 e.2.length c4]) (Hs5.out.sp.kp (by (repeat (first | with_reducible exact kp_refl | ((with_reducible refine kp_alloc ?_ ?_); (focus (first | (simp; done) | (simp; omega) | omega))) | ((with_reducible refine kp_set ?_ ?_); (focus (first | (simp; done) | (simp; omega) | omega))) | with_reducible refine kp_drew ?_ | with_reducible refine kp_drewN ?_ | ((with_reducible refine kp_step (by assumption) ?_ ?_); (focus (first | (simp; done) | (simp; omega) | omega))))))) (Hs6.out.sp.kp (by (repeat (first | with_reducible exact kp_refl | ((with_reducible refine kp_alloc ?_ ?_); (focus (first | (simp; done) | (simp; omega) | omega))) | ((with_reducible refine kp_set ?_ ?_); (focus (first | (simp; done) | (simp; omega) | omega))) | with_reducible refine kp_drew ?_ | with_reducible refine kp_drewN ?_ | ((with_reducible refine kp_step (by assumption) ?_ ?_); (focus (first | (simp; done) | (simp; omega) | omega))))))) (Nat.le_refl _) (by omega) hz6) (by omega) (by simp)
  · (repeat (first | with_reducible exact Below.refl _ _ | ((with_reducible refine bl_alloc ?_ ?_); (focus (first | (simp; done) | (simp; omega) | omega))) | ((with_reducible refine bl_set ?_ ?_); (focus (first | (simp; done) | (simp; omega) | omega))) | ((with_reducible refine bl_later ?_ ?_); (focus (first | (simp; done) | (simp; omega) | omega))) | with_reducible refine bl_drew ?_ | with_reducible refine bl_drewN ?_ | ((with_reducible refine bl_step (by assumption) ?_ ?_); (focus (first | (simp; done) | (simp; omega) | omega)))))

theorem c_spec_l4Copy (ak aw bk bw : Option Addr) (ck cw dk dw : Nat) (d e : List (List Int) × List (Int × List Int)) (w : World) (h : DiskR w ak aw d) (h2 : DiskR w bk bw e) (hI : DiskB d) (hJ : DiskB e) :
    Calls Try.prog 32 #[.agg #[.slice ak d.1.length ck, .slice aw d.2.length cw, .slice bk e.1.length dk, .slice bw e.2.length dw]] w fun en w' => ∃ a1 c1 a2 c2 a3 c3 a4 c4, en = .returned (.agg #[.slice a1 d.1.length c1, .slice a2 d.2.length c2, .slice a3 e.1.length c3, .slice a4 e.2.length c4]) ∧ Sp twoO w' w.heap.size w'.heap.size (d, e) [.slice a1 d.1.length c1, .slice a2 d.2.length c2, .slice a3 e.1.length c3, .slice a4 e.2.length c4] ∧ Below w.heap.size w w' := by
  have HD : Hid (∀ V, Below w.heap.size w V → DiskR V ak aw d) := fun V hb => h.below hb
  have HE : Hid (∀ V, Below w.heap.size w V → DiskR V bk bw e) := fun V hb => h2.below hb
  clear h h2
  go_enter Try.func32, Try.ntmps32
  go_wp2_with fail
  refine restK_begin [7] (by kernel_rfl) ?_
  refine restK_take (v := ?_) 0 rfl (by kernel_rfl) (by kernel_rfl) (by kernel_rfl) (by kernel_rfl) (by kernel_rfl) (by kernel_rfl) (fun _ _ _ h => h) (by rfl) ?_ ?_
  rotate_left
  · intro w9 h9; try dsimp only at h9
    obtain ⟨x9, rfl⟩ := later_of h9
    go_simp; try with_reducible rfl
  try simp only [Act.put, List.setIfInBounds_toArray, List.set_cons_zero, List.set_cons_succ]
  refine restK_take (v := ?_) 1 rfl (by kernel_rfl) (by kernel_rfl) (by kernel_rfl) (by kernel_rfl) (by kernel_rfl) (by kernel_rfl) (fun _ _ _ h => h) (by rfl) ?_ ?_
  rotate_left
  · intro w9 h9; try dsimp only at h9
    obtain ⟨x9, rfl⟩ := later_of h9
    go_simp; try with_reducible rfl
  try simp only [Act.put, List.setIfInBounds_toArray, List.set_cons_zero, List.set_cons_succ]
  refine restK_take (v := ?_) 3 rfl (by kernel_rfl) (by kernel_rfl) (by kernel_rfl) (by kernel_rfl) (by kernel_rfl) (by kernel_rfl) (fun _ _ _ h => h) (by rfl) ?_ ?_
  rotate_left
  · intro w9 h9; try dsimp only at h9
    obtain ⟨x9, rfl⟩ := later_of h9
    go_simp; try with_reducible rfl
  try simp only [Act.put, List.setIfInBounds_toArray, List.set_cons_zero, List.set_cons_succ]
  refine restK_take (v := ?_) 4 rfl (by kernel_rfl) (by kernel_rfl) (by kernel_rfl) (by kernel_rfl) (by kernel_rfl) (by kernel_rfl) (fun _ _ _ h => h) (by rfl) ?_ ?_
  rotate_left
  · intro w9 h9; try dsimp only at h9
    obtain ⟨x9, rfl⟩ := later_of h9
    go_simp; try with_reducible rfl
  try simp only [Act.put, List.setIfInBounds_toArray, List.set_cons_zero, List.set_cons_succ]
  refine restK_alone 2 rfl (by kernel_rfl) (by rfl) (fun hS K hK => ?_)
  go_wp2_with fail
  refine (c_spec_l3Copy ak aw ck cw d _ (HD.out _ (by (repeat (first | with_reducible exact Below.refl _ _ | ((with_reducible refine bl_alloc ?_ ?_); (focus (first | (simp; done) | (simp; omega) | omega))) | ((with_reducible refine bl_set ?_ ?_); (focus (first | (simp; done) | (simp; omega) | omega))) | ((with_reducible refine bl_later ?_ ?_); (focus (first | (simp; done) | (simp; omega) | omega))) | with_reducible refine bl_drew ?_ | with_reducible refine bl_drewN ?_ | ((with_reducible refine bl_step (by assumption) ?_ ?_); (focus (first | (simp; done) | (simp; omega) | omega))))))) hI).mono ?_
  rintro en w5 ⟨a1, c1, a2, c2, rfl, hs5, hb5⟩
  have hS5 := bl_step hb5 hS.size hS
  have hz5 := hb5.size
  simp only [World.size_drew, World.size_alloc] at hz5 hs5
  have Hs5 := Lib.hid hs5
  clear hs5
  refine hK.out _ _ (hS5) ?_
  try simp only [Act.put, List.setIfInBounds_toArray, List.set_cons_zero, List.set_cons_succ]
  clear hK K hS
  clear hb5
  refine restK_alone 5 rfl (by kernel_rfl) (by rfl) (fun hS K hK => ?_)
  go_wp2_with fail
  refine (c_spec_l3Copy bk bw dk dw e _ (HE.out _ (by (repeat (first | with_reducible exact Below.refl _ _ | ((with_reducible refine bl_alloc ?_ ?_); (focus (first | (simp; done) | (simp; omega) | omega))) | ((with_reducible refine bl_set ?_ ?_); (focus (first | (simp; done) | (simp; omega) | omega))) | ((with_reducible refine bl_later ?_ ?_); (focus (first | (simp; done) | (simp; omega) | omega))) | with_reducible refine bl_drew ?_ | with_reducible refine bl_drewN ?_ | ((with_reducible refine bl_step (by assumption) ?_ ?_); (focus (first | (simp; done) | (simp; omega) | omega))))))) hJ).mono ?_
  rintro en w6 ⟨a3, c3, a4, c4, rfl, hs6, hb6⟩
  have hS6 := bl_step hb6 hS.size hS
  have hz6 := hb6.size
  have Hs6 := Lib.hid hs6
  replace Hs5 := Lib.hid (Hs5.out.kp (kp_of_below hb6 (Nat.le_refl _)))
  clear hs6
  refine hK.out _ _ (hS6) ?_
  try simp only [Act.put, List.setIfInBounds_toArray, List.set_cons_zero, List.set_cons_succ]
  clear hK K hS
  clear hb6
  refine restK_take (v := ?_) 6 rfl (by kernel_rfl) (by kernel_rfl) (by kernel_rfl) (by kernel_rfl) (by kernel_rfl) (by kernel_rfl) (fun _ _ _ h => h) (by rfl) ?_ ?_
  rotate_left
  · intro w9 h9; try dsimp only at h9
    obtain ⟨x9, rfl⟩ := later_of h9
    go_simp; try with_reducible rfl
  try simp only [Act.put, List.setIfInBounds_toArray, List.set_cons_zero, List.set_cons_succ]
  refine restK_break 7 rfl (by kernel_rfl) (by rfl) (by kernel_rfl) (fun hS K hK => ?_)
  have hck0 := fun (o : Nat) => hS6.cell (p := ⟨w.heap.size + 1, o, none⟩) (by (first | (simp; done) | (simp; omega) | omega))
  have hfk0 := fun (o : Nat) => hS6.frozen (p := ⟨w.heap.size + 1, o, none⟩) (by (first | (simp; done) | (simp; omega) | omega))
  have hBw : Below w.heap.size w w6 := by (repeat (first | with_reducible exact Below.refl _ _ | ((with_reducible refine bl_alloc ?_ ?_); (focus (first | (simp; done) | (simp; omega) | omega))) | ((with_reducible refine bl_set ?_ ?_); (focus (first | (simp; done) | (simp; omega) | omega))) | ((with_reducible refine bl_later ?_ ?_); (focus (first | (simp; done) | (simp; omega) | omega))) | with_reducible refine bl_drew ?_ | with_reducible refine bl_drewN ?_ | ((with_reducible refine bl_step (by assumption) ?_ ?_); (focus (first | (simp; done) | (simp; omega) | omega)))))
  go_wp2_with fail
  refine hK.out _ _ trivial ?_
  try simp only [Act.put, List.setIfInBounds_toArray, List.set_cons_zero, List.set_cons_succ]
  clear hK K hS
  refine rest_done (by kernel_rfl) ?_
  go_wp2_with fail
  refine bodyPost_ret (v := .agg #[.slice a1 d.1.length c1, .slice a2 d.2.length c2, .slice a3 e.1.length c3, .slice a4 e.2.length c4]) (by simp [results, Try.results32, go_sem, *]) rfl ⟨a1, c1, a2, c2, a3, c3, a4, c4, rfl, ?_, ?_⟩
  · refine Sp.wide (lo := w.heap.size + 1 + 1) (hi := w6.heap.size) (Sp.pair (mid := w5.heap.size) (mid' := w5.heap.size) (va := [.slice a1 d.1.length c1, .slice a2 d.2.length c2]) (vb := [.slice a3 e.1.length c3, .slice a4 e.2.length c4]) (Hs5.out.sp.kp (by (repeat (first | with_reducible exact kp_refl | ((with_reducible refine kp_alloc ?_ ?_); (focus (first | (simp; done) | (simp; omega) | omega))) | ((with_reducible refine kp_set ?_ ?_); (focus (first | (simp; done) | (simp; omega) | omega))) | with_reducible refine kp_drew ?_ | with_reducible refine kp_drewN ?_ | ((with_reducible refine kp_step (by assumption) ?_ ?_); (focus (first | (simp; done) | (simp; omega) | omega))))))) (Hs6.out.sp.kp (by (repeat (first | with_reducible exact kp_refl | ((with_reducible refine kp_alloc ?_ ?_); (focus (first | (simp; done) | (simp; omega) | omega))) | ((with_reducible refine kp_set ?_ ?_); (focus (first | (simp; done) | (simp; omega) | omega))) | with_reducible refine kp_drew ?_ | with_reducible refine kp_drewN ?_ | ((with_reducible refine kp_step (by assumption) ?_ ?_); (focus (first | (simp; done) | (simp; omega) | omega))))))) (Nat.le_refl _) (by omega) hz6) (by omega) (by simp)
  · (repeat (first | with_reducible exact Below.refl _ _ | ((with_reducible refine bl_alloc ?_ ?_); (focus (first | (simp; done) | (simp; omega) | omega))) | ((with_reducible refine bl_set ?_ ?_); (focus (first | (simp; done) | (simp; omega) | omega))) | ((with_reducible refine bl_later ?_ ?_); (focus (first | (simp; done) | (simp; omega) | omega))) | with_reducible refine bl_drew ?_ | with_reducible refine bl_drewN ?_ | ((with_reducible refine bl_step (by assumption) ?_ ?_); (focus (first | (simp; done) | (simp; omega) | omega)))))

end Go.Proofs.Ytmjafclpeknpcaa
