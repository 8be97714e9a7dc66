/- Texts of the proof, merged: part 1. -/
import Derived.Test.YtmjafclpeknpcaaNSlot
import Derived.WalkKit
import Derived.WalkSpells
import Derived.Deep.QuietTactic
import Derived.BigQuiet
import Derived.Deep.Light
import Derived.Lib.Hide
import Derived.IntWalk
import Derived.Test.YtmjafclpeknpcaaTakeK
import Derived.Test.YtmjafclpeknpcaaLeaf
import Derived.Test.YtmjafclpeknpcaaSlMark
import Derived.Test.YtmjafclpeknpcaaMapI
/- Walks of functions of the program, printed by a program of the prover. -/
namespace Go.Proofs.Ytmjafclpeknpcaa
open Go.ChangeShapes Go.WideShapes Go.ChangeAt Go.RowKit Go.Deep
set_option maxHeartbeats 3200000
set_option maxRecDepth 100000

abbrev DiskT := List (List Int) × List (Int × List Int)
def RetTwo (w : World) (R : (DiskT × DiskT) × Bool) (en : Ending) (w' : World) : Prop :=
  ∃ a1 c1 a2 c2 a3 c3 a4 c4, en = .returned (.tuple #[.agg #[.slice a1 R.1.1.1.length c1, .slice a2 R.1.1.2.length c2, .slice a3 R.1.2.1.length c3, .slice a4 R.1.2.2.length c4], .bool R.2]) ∧ Sp twoO w' w.heap.size w'.heap.size R.1 [.slice a1 R.1.1.1.length c1, .slice a2 R.1.1.2.length c2, .slice a3 R.1.2.1.length c3, .slice a4 R.1.2.2.length c4] ∧ Below w.heap.size w w'
def bothWroteF (d e : DiskT) (x : Int) (r : List Int) : (DiskT × DiskT) × Bool := if bothC d e x r then (((d.1, d.2 ++ [(x, withSum r)]), (e.1, e.2 ++ [(x, withSum r)])), true) else ((d, e), false)
theorem bothWroteF_y {d e : DiskT} {x : Int} {r : List Int} (h : bothC d e x r = true) : bothWroteF d e x r = (((d.1, d.2 ++ [(x, withSum r)]), (e.1, e.2 ++ [(x, withSum r)])), true) := if_pos h
theorem bothWroteF_n {d e : DiskT} {x : Int} {r : List Int} (h : bothC d e x r = false) : bothWroteF d e x r = ((d, e), false) := if_neg (by rw [h]; simp)
def keptRowF (d e : DiskT) (x : Int) : Option (List Int) → (DiskT × DiskT) × Bool
  | none => if keptOk d e then ((d, e), false) else ((([], []), ([], [])), false)
  | some r => if keptOk d e then bothWroteF d e x r else ((([], []), ([], [])), false)
theorem keptRowF_z {d e : DiskT} {x : Int} (o : Option (List Int)) (h : keptOk d e = false) : keptRowF d e x o = ((([], []), ([], [])), false) := by
  cases o <;> exact if_neg (by rw [h]; simp)
theorem keptRowF_none {d e : DiskT} {x : Int} (h : keptOk d e = true) : keptRowF d e x none = ((d, e), false) := if_pos h
theorem keptRowF_some {d e : DiskT} {x : Int} {r : List Int} (h : keptOk d e = true) : keptRowF d e x (some r) = bothWroteF d e x r := if_pos h
theorem keptOk_t {d e : DiskT} (h : keptOk d e = true) : twoOk d e = true := by
  unfold keptOk at h
  simp only [Bool.and_eq_true] at h
  exact h.1
theorem c_spec_BothWrote (ak aw bk bw : Option Addr) (ck cw dk dw : Nat) (d e : DiskT) (x : Int) (ar : Option Addr) (cr : Nat) (r : List Int) (w : World) (h : DiskR w ak aw d) (h2 : DiskR w bk bw e) (hr : IntsR w ar r) (hT : twoOk d e = true) :
    Calls Try.prog 33 #[.agg #[.slice ak d.1.length ck, .slice aw d.2.length cw, .slice bk e.1.length dk, .slice bw e.2.length dw], .int .i64 x, .slice ar r.length cr] w (RetTwo w (bothWroteF d e x r)) := by
  cases hC : bothC d e x r
  · rw [bothWroteF_n hC]; exact c_spec_BothWrote_n ak aw bk bw ck cw dk dw d e x ar cr r w h h2 hr hT hC
  · rw [bothWroteF_y hC]; exact c_spec_BothWrote_y ak aw bk bw ck cw dk dw d e x ar cr r w h h2 hr hT hC
theorem c_impl_BothWrote (ak aw bk bw : Option Addr) (ck cw dk dw : Nat) (d e : DiskT) (x : Int) (ar : Option Addr) (cr : Nat) (r : List Int) (w : World) (h : DiskR w ak aw d) (h2 : DiskR w bk bw e) (hr : IntsR w ar r) (hT : twoOk d e = true) :
    Calls Try.prog 87 #[.agg #[.slice ak d.1.length ck, .slice aw d.2.length cw, .slice bk e.1.length dk, .slice bw e.2.length dw], .int .i64 x, .slice ar r.length cr] w (RetTwo w (bothWroteF d e x r)) := by
  cases hC : bothC d e x r
  · rw [bothWroteF_n hC]; exact c_impl_BothWrote_n ak aw bk bw ck cw dk dw d e x ar cr r w h h2 hr hT hC
  · rw [bothWroteF_y hC]; exact c_impl_BothWrote_y ak aw bk bw ck cw dk dw d e x ar cr r w h h2 hr hT hC
theorem sp_zero (w : World) (lo hi : Nat) : Sp twoO w lo hi ((([], []), ([], [])) : DiskT × DiskT) [.slice none 0 0, .slice none 0 0, .slice none 0 0, .slice none 0 0] := by
  have h : ∀ {α : Type} (A : En α), (listE A).rd w [] [.slice none 0 0] [] := fun A => ⟨none, 0, rfl, by simp, by unfold maxLen; omega, .inl ⟨rfl, rfl⟩⟩
  exact ⟨[], ⟨_, _, [], [], rfl, rfl, ⟨_, _, [], [], rfl, rfl, h _, h _⟩, ⟨_, _, [], [], rfl, rfl, h _, h _⟩⟩, by simp, by simp, by simp [Free]⟩
theorem c_impl_keptRow_none (ak aw bk bw : Option Addr) (ck cw dk dw : Nat) (d e : DiskT) (x : Int) (w : World) (h : DiskR w ak aw d) (h2 : DiskR w bk bw e) :
    Calls Try.prog 38 #[.agg #[.slice ak d.1.length ck, .slice aw d.2.length cw, .slice bk e.1.length dk, .slice bw e.2.length dw], .int .i64 x, .slice none 0 0] w (RetTwo w (keptRowF d e x none)) := by
  have HD : Hid (∀ V, Below w.heap.size w V → DiskR V ak aw d) := fun V hb => h.below hb
  have HE : Hid (∀ V, Below w.heap.size w V → DiskR V bk bw e) := fun V hb => h2.below hb
  clear h h2
  cases hK : keptOk d e
  · have HK := Lib.hid hK
    clear hK
    have hnil := fun (V : World) (a : Option Addr) (n c : Nat) => Lib.run_eql_slice_nil (P := Try.prog) V 85 2 a n c 0 0 Try.underlying85
    go_enter Try.func38, Try.ntmps38
    go_wp2_with fail
    refine (c_impl_KeptOk ak aw bk bw ck cw dk dw d e _ (HD.out _ (by (repeat (first | with_reducible exact Below.refl _ _ | ((with_reducible refine bl_alloc ?_ ?_); (focus (first | (simp; done) | (simp; omega) | omega))) | ((with_reducible refine bl_set ?_ ?_); (focus (first | (simp; done) | (simp; omega) | omega))) | ((with_reducible refine bl_later ?_ ?_); (focus (first | (simp; done) | (simp; omega) | omega))) | with_reducible refine bl_drew ?_ | with_reducible refine bl_drewN ?_ | ((with_reducible refine bl_step (by assumption) ?_ ?_); (focus (first | (simp; done) | (simp; omega) | omega))))))) (HE.out _ (by (repeat (first | with_reducible exact Below.refl _ _ | ((with_reducible refine bl_alloc ?_ ?_); (focus (first | (simp; done) | (simp; omega) | omega))) | ((with_reducible refine bl_set ?_ ?_); (focus (first | (simp; done) | (simp; omega) | omega))) | ((with_reducible refine bl_later ?_ ?_); (focus (first | (simp; done) | (simp; omega) | omega))) | with_reducible refine bl_drew ?_ | with_reducible refine bl_drewN ?_ | ((with_reducible refine bl_step (by assumption) ?_ ?_); (focus (first | (simp; done) | (simp; omega) | omega)))))))).mono ?_
    rw [HK.out]
    rintro en w2 ⟨rfl, hb2⟩
    have hz2 := hb2.size
    simp only [World.size_alloc] at hz2
    have hca0 := fun (o : Nat) => hb2.cell (p := ⟨w.heap.size, o, none⟩) (by (first | (simp; done) | (simp; omega) | omega))
    have hfa0 := fun (o : Nat) => hb2.frozen (p := ⟨w.heap.size, o, none⟩) (by (first | (simp; done) | (simp; omega) | omega))
    have hca1 := fun (o : Nat) => hb2.cell (p := ⟨w.heap.size + 1, o, none⟩) (by (first | (simp; done) | (simp; omega) | omega))
    have hfa1 := fun (o : Nat) => hb2.frozen (p := ⟨w.heap.size + 1, o, none⟩) (by (first | (simp; done) | (simp; omega) | omega))
    have hla0 : w.heap.size < w2.heap.size := by omega
    have hla1 : w.heap.size + 1 < w2.heap.size := by omega
    go_wp2_with fail
    refine bodyPost_ret (v := .tuple #[.agg #[.slice none 0 0, .slice none 0 0, .slice none 0 0, .slice none 0 0], .bool false]) (by simp [results, Try.results38, go_sem, *]) rfl ⟨none, 0, none, 0, none, 0, none, 0, ?_, ?_, ?_⟩
    · rw [keptRowF_z _ HK.out]; rfl
    · rw [keptRowF_z _ HK.out]
      exact sp_zero _ _ _
    · (repeat (first | with_reducible exact Below.refl _ _ | ((with_reducible refine bl_alloc ?_ ?_); (focus (first | (simp; done) | (simp; omega) | omega))) | ((with_reducible refine bl_set ?_ ?_); (focus (first | (simp; done) | (simp; omega) | omega))) | ((with_reducible refine bl_later ?_ ?_); (focus (first | (simp; done) | (simp; omega) | omega))) | with_reducible refine bl_drew ?_ | with_reducible refine bl_drewN ?_ | ((with_reducible refine bl_step (by assumption) ?_ ?_); (focus (first | (simp; done) | (simp; omega) | omega)))))
  · have HK := Lib.hid hK
    have HT := Lib.hid (keptOk_t hK)
    have HO1 := Lib.hid (twoOk_1 HT.out).1
    have HO2 := Lib.hid (twoOk_1 HT.out).2
    clear hK
    have hnil := fun (V : World) (a : Option Addr) (n c : Nat) => Lib.run_eql_slice_nil (P := Try.prog) V 85 2 a n c 0 0 Try.underlying85
    go_enter Try.func38, Try.ntmps38
    go_wp2_with fail
    refine (c_impl_KeptOk ak aw bk bw ck cw dk dw d e _ (HD.out _ (by (repeat (first | with_reducible exact Below.refl _ _ | ((with_reducible refine bl_alloc ?_ ?_); (focus (first | (simp; done) | (simp; omega) | omega))) | ((with_reducible refine bl_set ?_ ?_); (focus (first | (simp; done) | (simp; omega) | omega))) | ((with_reducible refine bl_later ?_ ?_); (focus (first | (simp; done) | (simp; omega) | omega))) | with_reducible refine bl_drew ?_ | with_reducible refine bl_drewN ?_ | ((with_reducible refine bl_step (by assumption) ?_ ?_); (focus (first | (simp; done) | (simp; omega) | omega))))))) (HE.out _ (by (repeat (first | with_reducible exact Below.refl _ _ | ((with_reducible refine bl_alloc ?_ ?_); (focus (first | (simp; done) | (simp; omega) | omega))) | ((with_reducible refine bl_set ?_ ?_); (focus (first | (simp; done) | (simp; omega) | omega))) | ((with_reducible refine bl_later ?_ ?_); (focus (first | (simp; done) | (simp; omega) | omega))) | with_reducible refine bl_drew ?_ | with_reducible refine bl_drewN ?_ | ((with_reducible refine bl_step (by assumption) ?_ ?_); (focus (first | (simp; done) | (simp; omega) | omega)))))))).mono ?_
    rw [HK.out]
    rintro en w2 ⟨rfl, hb2⟩
    have hz2 := hb2.size
    simp only [World.size_alloc] at hz2
    have hca0 := fun (o : Nat) => hb2.cell (p := ⟨w.heap.size, o, none⟩) (by (first | (simp; done) | (simp; omega) | omega))
    have hfa0 := fun (o : Nat) => hb2.frozen (p := ⟨w.heap.size, o, none⟩) (by (first | (simp; done) | (simp; omega) | omega))
    have hca1 := fun (o : Nat) => hb2.cell (p := ⟨w.heap.size + 1, o, none⟩) (by (first | (simp; done) | (simp; omega) | omega))
    have hfa1 := fun (o : Nat) => hb2.frozen (p := ⟨w.heap.size + 1, o, none⟩) (by (first | (simp; done) | (simp; omega) | omega))
    have hla0 : w.heap.size < w2.heap.size := by omega
    have hla1 : w.heap.size + 1 < w2.heap.size := by omega
    go_wp2_with fail
    refine (c_impl_copyTwo ak aw bk bw ck cw dk dw d e _ (HD.out _ (by (repeat (first | with_reducible exact Below.refl _ _ | ((with_reducible refine bl_alloc ?_ ?_); (focus (first | (simp; done) | (simp; omega) | omega))) | ((with_reducible refine bl_set ?_ ?_); (focus (first | (simp; done) | (simp; omega) | omega))) | ((with_reducible refine bl_later ?_ ?_); (focus (first | (simp; done) | (simp; omega) | omega))) | with_reducible refine bl_drew ?_ | with_reducible refine bl_drewN ?_ | ((with_reducible refine bl_step (by assumption) ?_ ?_); (focus (first | (simp; done) | (simp; omega) | omega))))))) (HE.out _ (by (repeat (first | with_reducible exact Below.refl _ _ | ((with_reducible refine bl_alloc ?_ ?_); (focus (first | (simp; done) | (simp; omega) | omega))) | ((with_reducible refine bl_set ?_ ?_); (focus (first | (simp; done) | (simp; omega) | omega))) | ((with_reducible refine bl_later ?_ ?_); (focus (first | (simp; done) | (simp; omega) | omega))) | with_reducible refine bl_drew ?_ | with_reducible refine bl_drewN ?_ | ((with_reducible refine bl_step (by assumption) ?_ ?_); (focus (first | (simp; done) | (simp; omega) | omega))))))) (diskOk_B HO1.out) (diskOk_B HO2.out)).mono ?_
    rintro en w9 ⟨b1, k1, b2, k2, b3, k3, b4, k4, rfl, hs9, hb9⟩
    have hz9 := hb9.size
    have Hs9 := Lib.hid hs9
    clear hs9
    have hcz0 := fun (o : Nat) => hb9.cell (p := ⟨w.heap.size + 1, o, none⟩) (by (first | (simp; done) | (simp; omega) | omega))
    have hfz0 := fun (o : Nat) => hb9.frozen (p := ⟨w.heap.size + 1, o, none⟩) (by (first | (simp; done) | (simp; omega) | omega))
    have hlz0 : w.heap.size < w9.heap.size := by omega
    have hlz1 : w.heap.size + 1 < w9.heap.size := by omega
    go_wp2_with fail
    refine bodyPost_ret (v := .tuple #[.agg #[.slice b1 d.1.length k1, .slice b2 d.2.length k2, .slice b3 e.1.length k3, .slice b4 e.2.length k4], .bool false]) (by simp [results, Try.results38, go_sem, *]) rfl ⟨b1, k1, b2, k2, b3, k3, b4, k4, ?_, ?_, ?_⟩
    · rw [keptRowF_none HK.out]
    · rw [keptRowF_none HK.out]
      exact (Hs9.out.kp (by (repeat (first | with_reducible exact kp_refl | ((with_reducible refine kp_alloc ?_ ?_); (focus (first | (simp; done) | (simp; omega) | omega))) | ((with_reducible refine kp_set ?_ ?_); (focus (first | (simp; done) | (simp; omega) | omega))) | with_reducible refine kp_drew ?_ | with_reducible refine kp_drewN ?_ | ((with_reducible refine kp_step (by assumption) ?_ ?_); (focus (first | (simp; done) | (simp; omega) | omega))))))).wide (by omega) (by (first | (simp; done) | (simp; omega) | omega))
    · (repeat (first | with_reducible exact Below.refl _ _ | ((with_reducible refine bl_alloc ?_ ?_); (focus (first | (simp; done) | (simp; omega) | omega))) | ((with_reducible refine bl_set ?_ ?_); (focus (first | (simp; done) | (simp; omega) | omega))) | ((with_reducible refine bl_later ?_ ?_); (focus (first | (simp; done) | (simp; omega) | omega))) | with_reducible refine bl_drew ?_ | with_reducible refine bl_drewN ?_ | ((with_reducible refine bl_step (by assumption) ?_ ?_); (focus (first | (simp; done) | (simp; omega) | omega)))))
theorem c_impl_keptRow_some (ak aw bk bw : Option Addr) (ck cw dk dw : Nat) (d e : DiskT) (x : Int) (gr : Addr) (cr : Nat) (r : List Int) (w : World) (h : DiskR w ak aw d) (h2 : DiskR w bk bw e) (hr : IntsR w (some gr) r) :
    Calls Try.prog 38 #[.agg #[.slice ak d.1.length ck, .slice aw d.2.length cw, .slice bk e.1.length dk, .slice bw e.2.length dw], .int .i64 x, .slice (some gr) r.length cr] w (RetTwo w (keptRowF d e x (some r))) := by
  have HRo : Hid (∀ V, Below w.heap.size w V → IntsR V (some gr) r) := fun V hb => hr.below hb
  clear hr
  have HD : Hid (∀ V, Below w.heap.size w V → DiskR V ak aw d) := fun V hb => h.below hb
  have HE : Hid (∀ V, Below w.heap.size w V → DiskR V bk bw e) := fun V hb => h2.below hb
  clear h h2
  cases hK : keptOk d e
  · have HK := Lib.hid hK
    clear hK
    have hnil := fun (V : World) (a : Option Addr) (n c : Nat) => Lib.run_eql_slice_nil (P := Try.prog) V 85 2 a n c 0 0 Try.underlying85
    go_enter Try.func38, Try.ntmps38
    go_wp2_with fail
    refine (c_impl_KeptOk ak aw bk bw ck cw dk dw d e _ (HD.out _ (by (repeat (first | with_reducible exact Below.refl _ _ | ((with_reducible refine bl_alloc ?_ ?_); (focus (first | (simp; done) | (simp; omega) | omega))) | ((with_reducible refine bl_set ?_ ?_); (focus (first | (simp; done) | (simp; omega) | omega))) | ((with_reducible refine bl_later ?_ ?_); (focus (first | (simp; done) | (simp; omega) | omega))) | with_reducible refine bl_drew ?_ | with_reducible refine bl_drewN ?_ | ((with_reducible refine bl_step (by assumption) ?_ ?_); (focus (first | (simp; done) | (simp; omega) | omega))))))) (HE.out _ (by (repeat (first | with_reducible exact Below.refl _ _ | ((with_reducible refine bl_alloc ?_ ?_); (focus (first | (simp; done) | (simp; omega) | omega))) | ((with_reducible refine bl_set ?_ ?_); (focus (first | (simp; done) | (simp; omega) | omega))) | ((with_reducible refine bl_later ?_ ?_); (focus (first | (simp; done) | (simp; omega) | omega))) | with_reducible refine bl_drew ?_ | with_reducible refine bl_drewN ?_ | ((with_reducible refine bl_step (by assumption) ?_ ?_); (focus (first | (simp; done) | (simp; omega) | omega)))))))).mono ?_
    rw [HK.out]
    rintro en w2 ⟨rfl, hb2⟩
    have hz2 := hb2.size
    simp only [World.size_alloc] at hz2
    have hca0 := fun (o : Nat) => hb2.cell (p := ⟨w.heap.size, o, none⟩) (by (first | (simp; done) | (simp; omega) | omega))
    have hfa0 := fun (o : Nat) => hb2.frozen (p := ⟨w.heap.size, o, none⟩) (by (first | (simp; done) | (simp; omega) | omega))
    have hca1 := fun (o : Nat) => hb2.cell (p := ⟨w.heap.size + 1, o, none⟩) (by (first | (simp; done) | (simp; omega) | omega))
    have hfa1 := fun (o : Nat) => hb2.frozen (p := ⟨w.heap.size + 1, o, none⟩) (by (first | (simp; done) | (simp; omega) | omega))
    have hla0 : w.heap.size < w2.heap.size := by omega
    have hla1 : w.heap.size + 1 < w2.heap.size := by omega
    go_wp2_with fail
    refine bodyPost_ret (v := .tuple #[.agg #[.slice none 0 0, .slice none 0 0, .slice none 0 0, .slice none 0 0], .bool false]) (by simp [results, Try.results38, go_sem, *]) rfl ⟨none, 0, none, 0, none, 0, none, 0, ?_, ?_, ?_⟩
    · rw [keptRowF_z _ HK.out]; rfl
    · rw [keptRowF_z _ HK.out]
      exact sp_zero _ _ _
    · (repeat (first | with_reducible exact Below.refl _ _ | ((with_reducible refine bl_alloc ?_ ?_); (focus (first | (simp; done) | (simp; omega) | omega))) | ((with_reducible refine bl_set ?_ ?_); (focus (first | (simp; done) | (simp; omega) | omega))) | ((with_reducible refine bl_later ?_ ?_); (focus (first | (simp; done) | (simp; omega) | omega))) | with_reducible refine bl_drew ?_ | with_reducible refine bl_drewN ?_ | ((with_reducible refine bl_step (by assumption) ?_ ?_); (focus (first | (simp; done) | (simp; omega) | omega)))))
  · have HK := Lib.hid hK
    have HT := Lib.hid (keptOk_t hK)
    have HO1 := Lib.hid (twoOk_1 HT.out).1
    have HO2 := Lib.hid (twoOk_1 HT.out).2
    clear hK
    have hnil := fun (V : World) (a : Option Addr) (n c : Nat) => Lib.run_eql_slice_nil (P := Try.prog) V 85 2 a n c 0 0 Try.underlying85
    go_enter Try.func38, Try.ntmps38
    go_wp2_with fail
    refine (c_impl_KeptOk ak aw bk bw ck cw dk dw d e _ (HD.out _ (by (repeat (first | with_reducible exact Below.refl _ _ | ((with_reducible refine bl_alloc ?_ ?_); (focus (first | (simp; done) | (simp; omega) | omega))) | ((with_reducible refine bl_set ?_ ?_); (focus (first | (simp; done) | (simp; omega) | omega))) | ((with_reducible refine bl_later ?_ ?_); (focus (first | (simp; done) | (simp; omega) | omega))) | with_reducible refine bl_drew ?_ | with_reducible refine bl_drewN ?_ | ((with_reducible refine bl_step (by assumption) ?_ ?_); (focus (first | (simp; done) | (simp; omega) | omega))))))) (HE.out _ (by (repeat (first | with_reducible exact Below.refl _ _ | ((with_reducible refine bl_alloc ?_ ?_); (focus (first | (simp; done) | (simp; omega) | omega))) | ((with_reducible refine bl_set ?_ ?_); (focus (first | (simp; done) | (simp; omega) | omega))) | ((with_reducible refine bl_later ?_ ?_); (focus (first | (simp; done) | (simp; omega) | omega))) | with_reducible refine bl_drew ?_ | with_reducible refine bl_drewN ?_ | ((with_reducible refine bl_step (by assumption) ?_ ?_); (focus (first | (simp; done) | (simp; omega) | omega)))))))).mono ?_
    rw [HK.out]
    rintro en w2 ⟨rfl, hb2⟩
    have hz2 := hb2.size
    simp only [World.size_alloc] at hz2
    have hca0 := fun (o : Nat) => hb2.cell (p := ⟨w.heap.size, o, none⟩) (by (first | (simp; done) | (simp; omega) | omega))
    have hfa0 := fun (o : Nat) => hb2.frozen (p := ⟨w.heap.size, o, none⟩) (by (first | (simp; done) | (simp; omega) | omega))
    have hca1 := fun (o : Nat) => hb2.cell (p := ⟨w.heap.size + 1, o, none⟩) (by (first | (simp; done) | (simp; omega) | omega))
    have hfa1 := fun (o : Nat) => hb2.frozen (p := ⟨w.heap.size + 1, o, none⟩) (by (first | (simp; done) | (simp; omega) | omega))
    have hla0 : w.heap.size < w2.heap.size := by omega
    have hla1 : w.heap.size + 1 < w2.heap.size := by omega
    go_wp2_with fail
    refine (c_impl_BothWrote ak aw bk bw ck cw dk dw d e x (some gr) cr r _ (HD.out _ (by (repeat (first | with_reducible exact Below.refl _ _ | ((with_reducible refine bl_alloc ?_ ?_); (focus (first | (simp; done) | (simp; omega) | omega))) | ((with_reducible refine bl_set ?_ ?_); (focus (first | (simp; done) | (simp; omega) | omega))) | ((with_reducible refine bl_later ?_ ?_); (focus (first | (simp; done) | (simp; omega) | omega))) | with_reducible refine bl_drew ?_ | with_reducible refine bl_drewN ?_ | ((with_reducible refine bl_step (by assumption) ?_ ?_); (focus (first | (simp; done) | (simp; omega) | omega))))))) (HE.out _ (by (repeat (first | with_reducible exact Below.refl _ _ | ((with_reducible refine bl_alloc ?_ ?_); (focus (first | (simp; done) | (simp; omega) | omega))) | ((with_reducible refine bl_set ?_ ?_); (focus (first | (simp; done) | (simp; omega) | omega))) | ((with_reducible refine bl_later ?_ ?_); (focus (first | (simp; done) | (simp; omega) | omega))) | with_reducible refine bl_drew ?_ | with_reducible refine bl_drewN ?_ | ((with_reducible refine bl_step (by assumption) ?_ ?_); (focus (first | (simp; done) | (simp; omega) | omega))))))) (HRo.out _ (by (repeat (first | with_reducible exact Below.refl _ _ | ((with_reducible refine bl_alloc ?_ ?_); (focus (first | (simp; done) | (simp; omega) | omega))) | ((with_reducible refine bl_set ?_ ?_); (focus (first | (simp; done) | (simp; omega) | omega))) | ((with_reducible refine bl_later ?_ ?_); (focus (first | (simp; done) | (simp; omega) | omega))) | with_reducible refine bl_drew ?_ | with_reducible refine bl_drewN ?_ | ((with_reducible refine bl_step (by assumption) ?_ ?_); (focus (first | (simp; done) | (simp; omega) | omega))))))) HT.out).mono ?_
    rintro en w9 ⟨b1, k1, b2, k2, b3, k3, b4, k4, rfl, hs9, hb9⟩
    have hz9 := hb9.size
    have Hs9 := Lib.hid hs9
    clear hs9
    have hcz0 := fun (o : Nat) => hb9.cell (p := ⟨w.heap.size + 1, o, none⟩) (by (first | (simp; done) | (simp; omega) | omega))
    have hfz0 := fun (o : Nat) => hb9.frozen (p := ⟨w.heap.size + 1, o, none⟩) (by (first | (simp; done) | (simp; omega) | omega))
    have hlz0 : w.heap.size < w9.heap.size := by omega
    have hlz1 : w.heap.size + 1 < w9.heap.size := by omega
    go_wp2_with fail
    refine bodyPost_ret (v := .tuple #[.agg #[.slice b1 (bothWroteF d e x r).1.1.1.length k1, .slice b2 (bothWroteF d e x r).1.1.2.length k2, .slice b3 (bothWroteF d e x r).1.2.1.length k3, .slice b4 (bothWroteF d e x r).1.2.2.length k4], .bool (bothWroteF d e x r).2]) (by simp [results, Try.results38, go_sem, *]) rfl ⟨b1, k1, b2, k2, b3, k3, b4, k4, ?_, ?_, ?_⟩
    · rw [keptRowF_some HK.out]
    · rw [keptRowF_some HK.out]
      exact (Hs9.out.kp (by (repeat (first | with_reducible exact kp_refl | ((with_reducible refine kp_alloc ?_ ?_); (focus (first | (simp; done) | (simp; omega) | omega))) | ((with_reducible refine kp_set ?_ ?_); (focus (first | (simp; done) | (simp; omega) | omega))) | with_reducible refine kp_drew ?_ | with_reducible refine kp_drewN ?_ | ((with_reducible refine kp_step (by assumption) ?_ ?_); (focus (first | (simp; done) | (simp; omega) | omega))))))).wide (by omega) (by (first | (simp; done) | (simp; omega) | omega))
    · (repeat (first | with_reducible exact Below.refl _ _ | ((with_reducible refine bl_alloc ?_ ?_); (focus (first | (simp; done) | (simp; omega) | omega))) | ((with_reducible refine bl_set ?_ ?_); (focus (first | (simp; done) | (simp; omega) | omega))) | ((with_reducible refine bl_later ?_ ?_); (focus (first | (simp; done) | (simp; omega) | omega))) | with_reducible refine bl_drew ?_ | with_reducible refine bl_drewN ?_ | ((with_reducible refine bl_step (by assumption) ?_ ?_); (focus (first | (simp; done) | (simp; omega) | omega)))))

end Go.Proofs.Ytmjafclpeknpcaa
/- In a region that draws its order: an operation that yields the same in every world is taken first, whatever the condition. -/
namespace Go.Proofs.Ytmjafclpeknpcaa
open Go.RowKit
section
variable {P : Program} {ops : Array Oper} {Q : Exit → Act → World → Prop} {S : World → Prop} {md : Region.Mode} {ks : List Nat}
theorem wpAnyK_firstP {i : Nat} {oi : Oper} {v : Value} (hi : ops[i]? = some oi) (hsel : ∀ (j : Nat) (o : Oper) cs b, ops[j]? = some o → o.op ≠ .select cs b)
    (hQ : ∀ c a w, Q (.panic c) (a.put oi.dst v) w → Q (.panic c) a w) (hik : i ∉ ks) :
    ∀ (fuel : Nat) (listed : Array Bool) (a : Act) (w : World),
      (∀ j oj, ops[j]? = some oj → j ≠ i → listed.getD j true = false → (∀ e ∈ oj.after, Region.binds md e = true → e.on ≠ i) → oi.apart ops oj = true) →
      i ∈ Region.ready md ops listed → YieldsIf P ops (fun _ => True) oi v a → (unbroken ks listed = true → S w) →
      wpAnyK P md ops Q ks S fuel (listed.setIfInBounds i true) (a.put oi.dst v) w → wpAnyK P md ops Q ks S (fuel + 1) listed a w := by
  have hset : ∀ L : Array Bool, unbroken ks (L.setIfInBounds i true) = true → unbroken ks L = true := fun L h => unbroken_of fun k hk => by
    have := unbroken_at h hk
    rwa [getD_set_ne true (fun e : i = k => hik (by rw [e]; exact hk))] at this
  have hset2 : ∀ L : Array Bool, unbroken ks L = true → unbroken ks (L.setIfInBounds i true) = true := fun L h => unbroken_of fun k hk => by
    rw [getD_set_ne true (fun e : i = k => hik (by rw [e]; exact hk))]
    exact unbroken_at h hk
  intro fuel
  induction fuel with
  | zero =>
    intro listed a w _ hr hy hS H
    refine ⟨fun h => (by rw [h] at hr; cases hr), fun j hj => ?_⟩
    by_cases hji : j = i
    · subst hji; exact hy.wpOp hi trivial ⟨fun h => hS (hset _ h), H⟩
    · have := ready_mono hj hji
      rw [H.1] at this
      cases this
  | succ fuel ih =>
    intro listed a w hfree hr hy hS H
    refine ⟨fun h => (by rw [h] at hr; cases hr), fun j hj => ?_⟩
    by_cases hji : j = i
    · subst hji; exact hy.wpOp hi trivial ⟨fun h => hS (hset _ h), H⟩
    · have h1 := H.2 j (ready_mono hj hji)
      obtain ⟨hjun, oj, hoj, hall⟩ := mem_ready.1 hj
      have hnot : ∀ e ∈ oj.after, Region.binds md e = true → e.on ≠ i := fun e he hb heq => by
        have h1 := hall e he hb
        have h0 := (mem_ready.1 hr).1
        rw [heq] at h1
        rcases Nat.lt_or_ge i listed.size with h' | h'
        · simp [h'] at h0 h1; rw [h0] at h1; cases h1
        · simp [Array.getElem?_eq_none h'] at h1
      have h2 := wpOp_putIf hoj (hfree j oj hoj hji hjun hnot) (fun cs b => hsel i oi cs b hi) (fun cs b => hsel j oj cs b hoj) hQ hy h1
      have hfree' : ∀ k ok, ops[k]? = some ok → k ≠ i → (listed.setIfInBounds j true).getD k true = false →
          (∀ e ∈ ok.after, Region.binds md e = true → e.on ≠ i) → oi.apart ops ok = true := fun k ok hk hki hun hno => by
        refine hfree k ok hk hki ?_ hno
        by_cases hjk : j = k
        · subst hjk; exact hjun
        · rw [getD_set_ne true hjk] at hun; exact hun
      have hcomm : (listed.setIfInBounds i true).setIfInBounds j true = (listed.setIfInBounds j true).setIfInBounds i true := Array.setIfInBounds_comm _ _ (Ne.symm hji)
      refine wpOp_mono (fun a' w' h3 => ?_) h2
      have hs' : unbroken ks (listed.setIfInBounds j true) = true → S w' := fun hu => h3.2.1 (by rw [hcomm]; exact hset2 _ hu)
      refine ⟨hs', ih (listed.setIfInBounds j true) a' w' hfree' (ready_mono hr (Ne.symm hji)) h3.1 hs' ?_⟩
      rw [← hcomm]
      exact h3.2.2
theorem restK_pure (i : Nat) {d : Tmp} {op : Op} {ty : TypeId} {pos : String} {af : Array Edge} {g : Option (Nat × Bool)} {fuel : Nat} {listed : Array Bool} {a : Act} {w : World} {v : Value}
    (hi : ops[i]? = some ⟨some d, op, ty, pos, af, g⟩) (hs : Region.noSelect ops = true) (hf : Region.free .any ops listed i = true) (hr : (Region.ready .any ops listed).contains i = true)
    (hk : ks.contains i = false)
    (hQ : ∀ c a w, Q (.panic c) (a.put (some d) v) w → Q (.panic c) a w) (hw : Region.wanted ⟨some d, op, ty, pos, af, g⟩ (yielded ops a.tmps) = true)
    (hy : ∀ w', (execOp a.eval ⟨some d, op, ty, pos, af, g⟩).run P w' = .ok (.value v) w')
    (h : RestK P ops Q ks S fuel (listed.setIfInBounds i true) (a.put (some d) v) w) : RestK P ops Q ks S (fuel + 1) listed a w :=
  fun hS => wpAnyK_firstP hi (Region.noSelect_spec hs) hQ (by simpa using hk) fuel listed a w (Region.free_spec hi hf) (by simpa using hr) (.inl ⟨hw, fun w' _ => hy w'⟩) (fun _ => hS) (h hS)
theorem restK_skipP (i : Nat) {d : Tmp} {op : Op} {ty : TypeId} {pos : String} {af : Array Edge} {g : Option (Nat × Bool)} {fuel : Nat} {listed : Array Bool} {a : Act} {w : World}
    (hi : ops[i]? = some ⟨some d, op, ty, pos, af, g⟩) (hs : Region.noSelect ops = true) (hf : Region.free .any ops listed i = true) (hr : (Region.ready .any ops listed).contains i = true)
    (hk : ks.contains i = false)
    (hQ : ∀ c a w, Q (.panic c) (a.put (some d) undef) w → Q (.panic c) a w) (hw : Region.wanted ⟨some d, op, ty, pos, af, g⟩ (yielded ops a.tmps) = false)
    (h : RestK P ops Q ks S fuel (listed.setIfInBounds i true) (a.put (some d) undef) w) : RestK P ops Q ks S (fuel + 1) listed a w :=
  fun hS => wpAnyK_firstP hi (Region.noSelect_spec hs) hQ (by simpa using hk) fuel listed a w (Region.free_spec hi hf) (by simpa using hr) (.inr ⟨hw, rfl⟩) (fun _ => hS) (h hS)
end
end Go.Proofs.Ytmjafclpeknpcaa
/- Walks of functions of the program, printed by a program of the prover. -/
namespace Go.Proofs.Ytmjafclpeknpcaa
open Go.ChangeShapes Go.WideShapes Go.ChangeAt Go.RowKit Go.Deep
set_option maxHeartbeats 3200000
set_option maxRecDepth 100000

def markCells (d : Int × Int × Int) : List Value := [.int .i64 d.1, .int .i64 d.2.1, .int .i64 d.2.2]
def markE : Enc (Int × Int × Int) := { n := 3, cells := markCells, len := fun _ => rfl, pos := by decide, ok := fun d => inI64 d.1 ∧ inI64 d.2.1 ∧ inI64 d.2.2 }
theorem markE_n : markE.n = 3 := rfl
theorem mark_at {w : World} {ao : Option Addr} {l : List (Int × Int × Int)} (h : ReadA markE w ao l) {k : Nat} (hk : k < l.length) :
    ∃ b off, ao = some ⟨b, off, none⟩ ∧ b < w.heap.size ∧ ∀ i (hi : i < l.length), w.cell? ⟨b, off + i * 3, none⟩ = some (.int .i64 l[i].1) ∧ w.cell? ⟨b, off + i * 3 + 1, none⟩ = some (.int .i64 l[i].2.1) ∧ w.cell? ⟨b, off + i * 3 + 2, none⟩ = some (.int .i64 l[i].2.2) := by
  obtain ⟨b, off, h1, h2, h3⟩ := h.at hk
  exact ⟨b, off, h1, h2, fun i hi => ⟨(h3 i hi).2 0 _ rfl, (h3 i hi).2 1 _ rfl, (h3 i hi).2 2 _ rfl⟩⟩
theorem open_marks {H : Type} {enc : TypeId × Value → H} {P : Program} {w : World} {base : Nat} {spare : Nat → Bool} {held : Bool} {ty : TypeId} {v : Value}
    (hf : flat P 5 ty = some [.int, .int, .int]) (hC : P.cellsOf ty = 3) (h : ClOk enc P w base spare held (.slice ty) v) :
    ∃ (ao : Option Addr) (cap : Nat) (l : List (Int × Int × Int)), v = .slice ao l.length cap ∧ ReadA markE w ao l := by
  rcases h with rfl | ⟨a, len, cap, n, rfl, hl, hm, hi⟩
  · exact ⟨none, 0, [], rfl, by simp, by simp, .inl rfl⟩
  · have hel : ∀ i, i < len → ∃ d : Int × Int × Int, markE.ok d ∧ w.cells? base (a.add (i * 3)) 3 = some (markCells d) := fun i hlt => by
      obtain ⟨cs', y, h1, h2⟩ := hi i hlt
      have h3 := flat_open 5 ty cs' y _ n hf h2
      obtain ⟨_, r0, e0, ⟨p0, rfl, q0⟩, h4⟩ := h3.cons
      obtain ⟨_, r1, e1, ⟨p1, rfl, q1⟩, h5⟩ := h4.cons
      obtain ⟨_, r2, e2, ⟨p2, rfl, q2⟩, h6⟩ := h5.cons
      have e9 := h6.nil
      subst e9
      subst e2
      subst e1
      subst e0
      rw [hC] at h1
      exact ⟨(p0, p1, p2), ⟨q0, q1, q2⟩, h1⟩
    exact open_enc markE hl hm hel
/-- the marks of the laws -/
def markMk (k : Int) (i : Nat) : Int × Int × Int := (k + 3 * (i : Int), k + 3 * (i : Int) + 1, k + 3 * (i : Int) + 1 + 1)
theorem markMk_ok {k : Int} {i : Nat} (h0 : 0 ≤ k) (h1 : k ≤ 1099511627776) (h2 : i ≤ 1099511627776) : markE.ok (markMk k i) := ⟨by simp only [markMk]; unfold inI64; omega, by simp only [markMk]; unfold inI64; omega, by simp only [markMk]; unfold inI64; omega⟩

abbrev MarkT := Int × Int × Int
def seenB (m : MarkT) : Bool := inB m.1 2 5 && (inB m.2.1 1 2000 && inB m.2.2 1 2000)
def hasI (U : List Int) (x : Int) : Bool := U.contains x
def seenFrom : Int → List Int → List MarkT → Bool
  | _, _, [] => true
  | lo, used, m :: r => seenB m && (!hasI used m.2.2 && (decide (lo < m.1) && seenFrom m.1 (used ++ [m.2.2]) r))
def seenOk (l : List MarkT) : Bool := seenFrom 1 [] l
def usedL (l : List MarkT) (k : Nat) : List Int := (l.take k).map (·.2.2)
def prevC (l : List MarkT) : Nat → Int
  | 0 => 1
  | k + 1 => (l.getD k (1, 0, 0)).1
theorem prevC_succ {l : List MarkT} {k : Nat} (hk : k < l.length) : prevC l (k + 1) = l[k].1 := by
  show (l.getD k (1, 0, 0)).1 = _
  rw [List.getD_eq_getElem?_getD, List.getElem?_eq_getElem hk, Option.getD_some]
theorem usedL_succ {l : List MarkT} {k : Nat} (hk : k < l.length) : usedL l (k + 1) = usedL l k ++ [l[k].2.2] := by
  unfold usedL
  rw [List.take_succ_eq_append_getElem hk, List.map_append]
  rfl
def seenAt (l : List MarkT) (k : Nat) : Bool := seenFrom (prevC l k) (usedL l k) (l.drop k)
theorem seenAt_zero (l : List MarkT) : seenAt l 0 = seenOk l := by simp [seenAt, prevC, usedL, seenOk]
theorem seenAt_step {l : List MarkT} {k : Nat} (hk : k < l.length) : seenAt l k = (seenB l[k] && (!hasI (usedL l k) l[k].2.2 && (decide (prevC l k < l[k].1) && seenAt l (k + 1)))) := by
  unfold seenAt
  rw [List.drop_eq_getElem_cons hk, seenFrom, usedL_succ hk, prevC_succ hk]
theorem seenAt_end (l : List MarkT) : seenAt l l.length = true := by simp [seenAt, seenFrom]
theorem seenFrom_len : ∀ (l : List MarkT) (lo : Int) (used : List Int), seenFrom lo used l = true → l = [] ∨ lo + l.length ≤ 5
  | [], _, _, _ => .inl rfl
  | m :: r, lo, used, h => by
    simp only [seenFrom, Bool.and_eq_true, decide_eq_true_eq] at h
    obtain ⟨h1, _, h3, h4⟩ := h
    have h5 : m.1 ≤ 5 := by
      simp only [seenB, inB, Bool.and_eq_true, decide_eq_true_eq] at h1
      exact h1.1.2
    rcases seenFrom_len r m.1 _ h4 with rfl | h6
    · right; simp; omega
    · right; simp only [List.length_cons]; omega
theorem seenOk_len {l : List MarkT} (h : seenOk l = true) : l.length ≤ 4 := by
  rcases seenFrom_len l 1 [] h with rfl | h
  · simp
  · omega
theorem seenOk_long {l : List MarkT} (h : 4 < l.length) : seenOk l = false := by
  cases h2 : seenOk l
  · rfl
  · have := seenOk_len h2; omega
def usedM (U : List Int) (q : Int) : Option Value := if hasI U q = true then some (.bool true) else none
theorem usedM_getD (U : List Int) (q : Int) : (usedM U q).getD (.bool false) = .bool (hasI U q) := by
  unfold usedM; cases hasI U q <;> rfl
theorem usedM_nil : usedM [] = fun _ => none := by funext q; simp [usedM, hasI]
theorem usedM_succ (U : List Int) (x : Int) : (fun q => if q = x then some (Value.bool true) else usedM U q) = usedM (U ++ [x]) := by
  funext q
  unfold usedM
  by_cases h : q = x
  · subst h; simp [hasI]
  · have h2 : hasI (U ++ [x]) q = hasI U q := by
      unfold hasI
      rw [Bool.eq_iff_iff]; simp [h]
    rw [if_neg h, h2]
def lastSeen (l : List MarkT) : Int := l.foldl (fun a m => max a m.2.2) 0
theorem lastSeen_succ {l : List MarkT} {k : Nat} (hk : k < l.length) : lastSeen (l.take (k + 1)) = max (lastSeen (l.take k)) l[k].2.2 := by
  unfold lastSeen
  rw [List.take_succ_eq_append_getElem hk, List.foldl_append]
  rfl
def markOf (l : List MarkT) (c : Int) : MarkT := match l.find? (fun m => m.1 == c) with
  | some m => m
  | none => (0, 0, 0)
theorem markOf_nil (c : Int) : markOf [] c = (0, 0, 0) := rfl
theorem markOf_cons (m : MarkT) (l : List MarkT) (c : Int) : markOf (m :: l) c = if (m.1 == c) = true then m else markOf l c := by
  unfold markOf
  rw [List.find?_cons]
  cases m.1 == c <;> rfl
theorem markOf_step {l : List MarkT} {k : Nat} (hk : k < l.length) (c : Int) : markOf (l.drop k) c = if (l[k].1 == c) = true then l[k] else markOf (l.drop (k + 1)) c := by
  rw [List.drop_eq_getElem_cons hk, markOf_cons]
theorem markOf_ok {l : List MarkT} (h : ∀ m ∈ l, markE.ok m) (c : Int) : markE.ok (markOf l c) := by
  unfold markOf
  split
  · rename_i m hm
    exact h m (List.mem_of_find?_eq_some hm)
  · have h0 : inI64 0 := by unfold inI64; omega
    exact ⟨h0, h0, h0⟩
theorem zero_boolM : ∀ W : World, (zeroValue 4).run Try.prog W = .ok (.bool false) W := fun _ => by kernel_rfl

theorem c_impl_SeenOk (ao : Option Addr) (cap : Nat) (l : List MarkT) (w : World) (hl : ReadA markE w ao l) :
    Calls Try.prog 159 #[.slice ao l.length cap] w fun e w' => e = .returned (.bool (seenOk l)) ∧ Below w.heap.size w w' := by
  have hm := hl.2.1
  have hmm := @run_makeMap Try.prog
  go_enter Try.func159, Try.ntmps159
  go_wp2_with fail
  go_loopw [9] (fun i wr => ∃ k : Nat, k ≤ l.length ∧ i = .int .i64 k ∧ Hid (seenOk l = seenAt l k) ∧ MapI wr w.heap.size (usedM (usedL l k)) ∧ Below w.heap.size w wr) (fun i _ => l.length - (intOf i).toNat)
  case atStart => exact ⟨0, Nat.zero_le _, rfl, (seenAt_zero l).symm, by rw [show usedM (usedL l 0) = fun _ => none from usedM_nil]; exact MapI.made w, by (repeat (first | with_reducible exact Below.refl _ _ | ((with_reducible refine bl_alloc ?_ ?_); (focus (first | (simp; done) | (simp; omega) | omega))) | ((with_reducible refine bl_set ?_ ?_); (focus (first | (simp; done) | (simp; omega) | omega))) | ((with_reducible refine bl_later ?_ ?_); (focus (first | (simp; done) | (simp; omega) | omega))) | with_reducible refine bl_drew ?_ | with_reducible refine bl_drewN ?_ | ((with_reducible refine bl_step (by assumption) ?_ ?_); (focus (first | (simp; done) | (simp; omega) | omega)))))⟩
  case round =>
    obtain ⟨k, hk, rfl, Hs, hmap, hbel⟩ := hrel
    by_cases hlt : k < l.length
    · have hp : (k : Int) < l.length := by omega
      have hsz := hbel.size
      have hmlt := hmap.lt
      obtain ⟨b, off, rfl, hbl, hc⟩ := mark_at (hl.below hbel) hlt
      obtain ⟨c, s, x, HM⟩ : ∃ c s x, Hid (l[k] = (c, s, x)) := ⟨_, _, _, Lib.hid rfl⟩
      have hc0 := (hc k hlt).1
      have hc1 := (hc k hlt).2.1
      have hc2 := (hc k hlt).2.2
      rw [HM.out] at hc0 hc1 hc2
      simp only at hc0 hc1 hc2
      obtain ⟨U, HU⟩ : ∃ U, Hid (usedL l k = U) := ⟨_, Lib.hid rfl⟩
      rw [HU.out] at hmap
      have hlook : ∀ q : Int, (Instr.lookup 162 (.map (some w.heap.size)) (.int .i64 q) false).run Try.prog (wr.alloc (.cells #[.int .i64 c, .int .i64 s, .int .i64 x] 127)) = .ok (.bool (hasI U q)) (wr.alloc (.cells #[.int .i64 c, .int .i64 s, .int .i64 x] 127)) := fun q => by
        have hmx : MapI (wr.alloc (.cells #[.int .i64 c, .int .i64 s, .int .i64 x] 127)) w.heap.size (usedM U) := hmap.same (Below.heap_alloc _ _ _ hmlt)
        rw [hmx.run_lookup Try.underlying162 Try.underlying2 _ zero_boolM q, usedM_getD]
      cases hA : inB c 2 5
      · have HF : Hid (seenOk l = false) := by rw [Hid, Hs.out, seenAt_step hlt, HM.out]; simp [seenB, hA]
        clear hc
        go_wp2_with (first | (go_at_call 145; refine (c_impl_AskerOk _ _).mono ?_; rintro e w' ⟨rfl, rfl⟩) | (go_at_call 146; refine (c_impl_seqOk _ _).mono ?_; rintro e w' ⟨rfl, rfl⟩) | (go_at_call 88; refine (c_impl_indexOk _ _).mono ?_; rintro e w' ⟨rfl, rfl⟩))
        go_ret
        exact ⟨by rw [HF.out]; rfl, by (repeat (first | with_reducible exact Below.refl _ _ | ((with_reducible refine bl_alloc ?_ ?_); (focus (first | (simp; done) | (simp; omega) | omega))) | ((with_reducible refine bl_set ?_ ?_); (focus (first | (simp; done) | (simp; omega) | omega))) | ((with_reducible refine bl_later ?_ ?_); (focus (first | (simp; done) | (simp; omega) | omega))) | with_reducible refine bl_drew ?_ | with_reducible refine bl_drewN ?_ | ((with_reducible refine bl_step (by assumption) ?_ ?_); (focus (first | (simp; done) | (simp; omega) | omega)))))⟩
      cases hS : inB s 1 2000
      · have HF : Hid (seenOk l = false) := by rw [Hid, Hs.out, seenAt_step hlt, HM.out]; simp [seenB, hS]
        clear hc
        go_wp2_with (first | (go_at_call 145; refine (c_impl_AskerOk _ _).mono ?_; rintro e w' ⟨rfl, rfl⟩) | (go_at_call 146; refine (c_impl_seqOk _ _).mono ?_; rintro e w' ⟨rfl, rfl⟩) | (go_at_call 88; refine (c_impl_indexOk _ _).mono ?_; rintro e w' ⟨rfl, rfl⟩))
        go_ret
        exact ⟨by rw [HF.out]; rfl, by (repeat (first | with_reducible exact Below.refl _ _ | ((with_reducible refine bl_alloc ?_ ?_); (focus (first | (simp; done) | (simp; omega) | omega))) | ((with_reducible refine bl_set ?_ ?_); (focus (first | (simp; done) | (simp; omega) | omega))) | ((with_reducible refine bl_later ?_ ?_); (focus (first | (simp; done) | (simp; omega) | omega))) | with_reducible refine bl_drew ?_ | with_reducible refine bl_drewN ?_ | ((with_reducible refine bl_step (by assumption) ?_ ?_); (focus (first | (simp; done) | (simp; omega) | omega)))))⟩
      cases hX : inB x 1 2000
      · have HF : Hid (seenOk l = false) := by rw [Hid, Hs.out, seenAt_step hlt, HM.out]; simp [seenB, hX]
        clear hc
        go_wp2_with (first | (go_at_call 145; refine (c_impl_AskerOk _ _).mono ?_; rintro e w' ⟨rfl, rfl⟩) | (go_at_call 146; refine (c_impl_seqOk _ _).mono ?_; rintro e w' ⟨rfl, rfl⟩) | (go_at_call 88; refine (c_impl_indexOk _ _).mono ?_; rintro e w' ⟨rfl, rfl⟩))
        go_ret
        exact ⟨by rw [HF.out]; rfl, by (repeat (first | with_reducible exact Below.refl _ _ | ((with_reducible refine bl_alloc ?_ ?_); (focus (first | (simp; done) | (simp; omega) | omega))) | ((with_reducible refine bl_set ?_ ?_); (focus (first | (simp; done) | (simp; omega) | omega))) | ((with_reducible refine bl_later ?_ ?_); (focus (first | (simp; done) | (simp; omega) | omega))) | with_reducible refine bl_drew ?_ | with_reducible refine bl_drewN ?_ | ((with_reducible refine bl_step (by assumption) ?_ ?_); (focus (first | (simp; done) | (simp; omega) | omega)))))⟩
      cases hu : hasI U x
      rotate_left
      · have HF : Hid (seenOk l = false) := by rw [Hid, Hs.out, seenAt_step hlt, HM.out, HU.out]; simp [hu]
        clear hc
        go_wp2_with (first | (go_at_call 145; refine (c_impl_AskerOk _ _).mono ?_; rintro e w' ⟨rfl, rfl⟩) | (go_at_call 146; refine (c_impl_seqOk _ _).mono ?_; rintro e w' ⟨rfl, rfl⟩) | (go_at_call 88; refine (c_impl_indexOk _ _).mono ?_; rintro e w' ⟨rfl, rfl⟩))
        go_ret
        exact ⟨by rw [HF.out]; rfl, by (repeat (first | with_reducible exact Below.refl _ _ | ((with_reducible refine bl_alloc ?_ ?_); (focus (first | (simp; done) | (simp; omega) | omega))) | ((with_reducible refine bl_set ?_ ?_); (focus (first | (simp; done) | (simp; omega) | omega))) | ((with_reducible refine bl_later ?_ ?_); (focus (first | (simp; done) | (simp; omega) | omega))) | with_reducible refine bl_drew ?_ | with_reducible refine bl_drewN ?_ | ((with_reducible refine bl_step (by assumption) ?_ ?_); (focus (first | (simp; done) | (simp; omega) | omega)))))⟩
      have HX : Hid (seenB (c, s, x) = true) := by simp [Hid, seenB, hA, hS, hX]
      have Hu := Lib.hid hu
      by_cases hk0 : k = 0
      · have HP : Hid (prevC l k < c) := by
          subst hk0
          simp only [inB, Bool.and_eq_true, decide_eq_true_eq] at hA
          show (1 : Int) < c
          omega
        have Hk0 := Lib.hid hk0
        have hk1 : k ≤ 0 := by omega
        have hd0 : decide (0 < k) = false := by simp; omega
        have hd2 : decide ((0 : Int) < (k : Int)) = false := by simp; omega
        clear hk0 hc
        go_wp2_with (first | (go_at_call 145; refine (c_impl_AskerOk _ _).mono ?_; rintro e w' ⟨rfl, rfl⟩) | (go_at_call 146; refine (c_impl_seqOk _ _).mono ?_; rintro e w' ⟨rfl, rfl⟩) | (go_at_call 88; refine (c_impl_indexOk _ _).mono ?_; rintro e w' ⟨rfl, rfl⟩))
        refine restK_begin [] (by kernel_rfl) ?_
        refine restK_take (v := ?_) 0 rfl (by kernel_rfl) (by kernel_rfl) (by kernel_rfl) (by kernel_rfl) (by kernel_rfl) (by kernel_rfl) (fun _ _ _ h => h) (by rfl) ?_ ?_
        rotate_left
        · intro w9 h9; try dsimp only at h9
          obtain ⟨x9, rfl⟩ := later_of h9
          go_simp; try with_reducible rfl
        try simp only [Act.put, List.setIfInBounds_toArray, List.set_cons_zero, List.set_cons_succ]
        refine restK_take (v := ?_) 1 rfl (by kernel_rfl) (by kernel_rfl) (by kernel_rfl) (by kernel_rfl) (by kernel_rfl) (by kernel_rfl) (fun _ _ _ h => h) (by rfl) ?_ ?_
        rotate_left
        · intro w9 h9; try dsimp only at h9
          obtain ⟨x9, rfl⟩ := later_of h9
          go_simp; try with_reducible rfl
        try simp only [Act.put, List.setIfInBounds_toArray, List.set_cons_zero, List.set_cons_succ]
        refine restK_take (v := ?_) 2 rfl (by kernel_rfl) (by kernel_rfl) (by kernel_rfl) (by kernel_rfl) (by kernel_rfl) (by kernel_rfl) (fun _ _ _ h => h) (by rfl) ?_ ?_
        rotate_left
        · intro w9 h9; try dsimp only at h9
          obtain ⟨x9, rfl⟩ := later_of h9
          go_simp; try with_reducible rfl
        try simp only [Act.put, List.setIfInBounds_toArray, List.set_cons_zero, List.set_cons_succ]
        refine restK_skip 3 rfl (by kernel_rfl) (by kernel_rfl) (by kernel_rfl) (by kernel_rfl) (by kernel_rfl) (by kernel_rfl) (fun _ _ _ h => h) (by rfl) ?_
        try simp only [Act.put, List.setIfInBounds_toArray, List.set_cons_zero, List.set_cons_succ]
        refine restK_skip 4 rfl (by kernel_rfl) (by kernel_rfl) (by kernel_rfl) (by kernel_rfl) (by kernel_rfl) (by kernel_rfl) (fun _ _ _ h => h) (by rfl) ?_
        try simp only [Act.put, List.setIfInBounds_toArray, List.set_cons_zero, List.set_cons_succ]
        refine restK_skip 5 rfl (by kernel_rfl) (by kernel_rfl) (by kernel_rfl) (by kernel_rfl) (by kernel_rfl) (by kernel_rfl) (fun _ _ _ h => h) (by rfl) ?_
        try simp only [Act.put, List.setIfInBounds_toArray, List.set_cons_zero, List.set_cons_succ]
        refine restK_skip 6 rfl (by kernel_rfl) (by kernel_rfl) (by kernel_rfl) (by kernel_rfl) (by kernel_rfl) (by kernel_rfl) (fun _ _ _ h => h) (by rfl) ?_
        try simp only [Act.put, List.setIfInBounds_toArray, List.set_cons_zero, List.set_cons_succ]
        refine restK_skip 7 rfl (by kernel_rfl) (by kernel_rfl) (by kernel_rfl) (by kernel_rfl) (by kernel_rfl) (by kernel_rfl) (fun _ _ _ h => h) (by rfl) ?_
        try simp only [Act.put, List.setIfInBounds_toArray, List.set_cons_zero, List.set_cons_succ]
        refine restK_skip 8 rfl (by kernel_rfl) (by kernel_rfl) (by kernel_rfl) (by kernel_rfl) (by kernel_rfl) (by kernel_rfl) (fun _ _ _ h => h) (by rfl) ?_
        try simp only [Act.put, List.setIfInBounds_toArray, List.set_cons_zero, List.set_cons_succ]
        refine restK_skip 9 rfl (by kernel_rfl) (by kernel_rfl) (by kernel_rfl) (by kernel_rfl) (by kernel_rfl) (by kernel_rfl) (fun _ _ _ h => h) (by rfl) ?_
        try simp only [Act.put, List.setIfInBounds_toArray, List.set_cons_zero, List.set_cons_succ]
        refine restK_skip 10 rfl (by kernel_rfl) (by kernel_rfl) (by kernel_rfl) (by kernel_rfl) (by kernel_rfl) (by kernel_rfl) (fun _ _ _ h => h) (by rfl) ?_
        try simp only [Act.put, List.setIfInBounds_toArray, List.set_cons_zero, List.set_cons_succ]
        refine restK_skip 11 rfl (by kernel_rfl) (by kernel_rfl) (by kernel_rfl) (by kernel_rfl) (by kernel_rfl) (by kernel_rfl) (fun _ _ _ h => h) (by rfl) ?_
        try simp only [Act.put, List.setIfInBounds_toArray, List.set_cons_zero, List.set_cons_succ]
        refine restK_take (v := ?_) 12 rfl (by kernel_rfl) (by kernel_rfl) (by kernel_rfl) (by kernel_rfl) (by kernel_rfl) (by kernel_rfl) (fun _ _ _ h => h) (by rfl) ?_ ?_
        rotate_left
        · intro w9 h9; try dsimp only at h9
          obtain ⟨x9, rfl⟩ := later_of h9
          go_simp; try with_reducible rfl
        try simp only [Act.put, List.setIfInBounds_toArray, List.set_cons_zero, List.set_cons_succ]
        refine restK_done (by kernel_rfl) (fun hS => ?_)
        have Hmap := Lib.hid (hmap.same (w' := (wr.alloc (.cells #[.int .i64 c, .int .i64 s, .int .i64 x] 127)).drew) (Below.heap_alloc _ _ _ hmlt))
        clear hmap
        obtain ⟨w2, hrun, hmap2, hwr⟩ := Hmap.out.run_update Try.underlying162 Try.underlying2 x (.bool true)
        have Hmap2 := Lib.hid hmap2
        have Hwr := Lib.hid hwr
        clear hmap2 hwr
        go_wp2_with fail
        go_roundw
        case rel => exact ⟨k + 1, by omega, by go_num, by rw [Hid, Hs.out, seenAt_step hlt, HM.out]; rw [HU.out, HX.out, Hu.out, decide_eq_true HP.out]; rfl, by rw [usedL_succ hlt, HM.out, HU.out]; show MapI w2 _ (usedM (U ++ [x])); rw [← usedM_succ]; exact Hmap2.out, ((hbel.alloc hbel.size _).drew).trans (Hwr.out.below (by omega))⟩
        case measure => simp [intOf]; omega
      · obtain ⟨j, rfl⟩ : ∃ j, k = j + 1 := ⟨k - 1, by omega⟩
        have hlt' : j < l.length := by omega
        obtain ⟨p, HJ⟩ : ∃ p, Hid (l[j].1 = p) := ⟨_, Lib.hid rfl⟩
        have hj0 := (hc j hlt').1
        rw [HJ.out] at hj0
        have hjp : (j : Int) < l.length := by omega
        have hd2 : decide ((0 : Int) < (j : Int) + 1) = true := decide_eq_true (by omega)
        have hd3 : decide (0 < j + 1) = true := by simp
        have hp2 : (j : Int) + 1 < l.length := by omega
        have hal : ((j + 1 : Nat) : Int) ≤ 9223372036854775807 := by omega
        clear hk0 hc
        cases hcp : decide (c ≤ p)
        · have HP : Hid (prevC l (j + 1) < c) := by rw [Hid, prevC_succ hlt', HJ.out]; simp only [decide_eq_false_iff_not] at hcp; omega
          have hwj : IntKind.i64.wrap (j : Int) = j := IntWalk.i64_in _ (by omega)
          go_wp2_with (first | (go_at_call 145; refine (c_impl_AskerOk _ _).mono ?_; rintro e w' ⟨rfl, rfl⟩) | (go_at_call 146; refine (c_impl_seqOk _ _).mono ?_; rintro e w' ⟨rfl, rfl⟩) | (go_at_call 88; refine (c_impl_indexOk _ _).mono ?_; rintro e w' ⟨rfl, rfl⟩))
          refine restK_begin [] (by kernel_rfl) ?_
          refine restK_take (v := ?_) 0 rfl (by kernel_rfl) (by kernel_rfl) (by kernel_rfl) (by kernel_rfl) (by kernel_rfl) (by kernel_rfl) (fun _ _ _ h => h) (by rfl) ?_ ?_
          rotate_left
          · intro w9 h9; try dsimp only at h9
            obtain ⟨x9, rfl⟩ := later_of h9
            go_simp; try with_reducible rfl
          try simp only [Act.put, List.setIfInBounds_toArray, List.set_cons_zero, List.set_cons_succ]
          refine restK_take (v := ?_) 1 rfl (by kernel_rfl) (by kernel_rfl) (by kernel_rfl) (by kernel_rfl) (by kernel_rfl) (by kernel_rfl) (fun _ _ _ h => h) (by rfl) ?_ ?_
          rotate_left
          · intro w9 h9; try dsimp only at h9
            obtain ⟨x9, rfl⟩ := later_of h9
            go_simp; try with_reducible rfl
          try simp only [Act.put, List.setIfInBounds_toArray, List.set_cons_zero, List.set_cons_succ]
          refine restK_take (v := ?_) 2 rfl (by kernel_rfl) (by kernel_rfl) (by kernel_rfl) (by kernel_rfl) (by kernel_rfl) (by kernel_rfl) (fun _ _ _ h => h) (by rfl) ?_ ?_
          rotate_left
          · intro w9 h9; try dsimp only at h9
            obtain ⟨x9, rfl⟩ := later_of h9
            go_simp; try with_reducible rfl
          try simp only [Act.put, List.setIfInBounds_toArray, List.set_cons_zero, List.set_cons_succ]
          refine restK_take (v := ?_) 3 rfl (by kernel_rfl) (by kernel_rfl) (by kernel_rfl) (by kernel_rfl) (by kernel_rfl) (by kernel_rfl) (fun _ _ _ h => h) (by rfl) ?_ ?_
          rotate_left
          · intro w9 h9; try dsimp only at h9
            obtain ⟨x9, rfl⟩ := later_of h9
            go_simp; try with_reducible rfl
          try simp only [Act.put, List.setIfInBounds_toArray, List.set_cons_zero, List.set_cons_succ]
          refine restK_take (v := ?_) 4 rfl (by kernel_rfl) (by kernel_rfl) (by kernel_rfl) (by kernel_rfl) (by kernel_rfl) (by kernel_rfl) (fun _ _ _ h => h) (by rfl) ?_ ?_
          rotate_left
          · intro w9 h9; try dsimp only at h9
            obtain ⟨x9, rfl⟩ := later_of h9
            go_simp; try with_reducible rfl
          try simp only [Act.put, List.setIfInBounds_toArray, List.set_cons_zero, List.set_cons_succ]
          refine restK_take (v := ?_) 5 rfl (by kernel_rfl) (by kernel_rfl) (by kernel_rfl) (by kernel_rfl) (by kernel_rfl) (by kernel_rfl) (fun _ _ _ h => h) (by rfl) ?_ ?_
          rotate_left
          · intro w9 h9; try dsimp only at h9
            obtain ⟨x9, rfl⟩ := later_of h9
            go_simp; try with_reducible rfl
          try simp only [Act.put, List.setIfInBounds_toArray, List.set_cons_zero, List.set_cons_succ]
          refine restK_take (v := ?_) 6 rfl (by kernel_rfl) (by kernel_rfl) (by kernel_rfl) (by kernel_rfl) (by kernel_rfl) (by kernel_rfl) (fun _ _ _ h => h) (by rfl) ?_ ?_
          rotate_left
          · intro w9 h9; try dsimp only at h9
            obtain ⟨x9, rfl⟩ := later_of h9
            go_simp; try with_reducible rfl
          try simp only [Act.put, List.setIfInBounds_toArray, List.set_cons_zero, List.set_cons_succ]
          refine restK_take (v := ?_) 7 rfl (by kernel_rfl) (by kernel_rfl) (by kernel_rfl) (by kernel_rfl) (by kernel_rfl) (by kernel_rfl) (fun _ _ _ h => h) (by rfl) ?_ ?_
          rotate_left
          · intro w9 h9; try dsimp only at h9
            obtain ⟨x9, rfl⟩ := later_of h9
            go_simp; try with_reducible rfl
          try simp only [Act.put, List.setIfInBounds_toArray, List.set_cons_zero, List.set_cons_succ]
          refine restK_take (v := ?_) 8 rfl (by kernel_rfl) (by kernel_rfl) (by kernel_rfl) (by kernel_rfl) (by kernel_rfl) (by kernel_rfl) (fun _ _ _ h => h) (by rfl) ?_ ?_
          rotate_left
          · intro w9 h9; try dsimp only at h9
            obtain ⟨x9, rfl⟩ := later_of h9
            go_simp; try with_reducible rfl
          try simp only [Act.put, List.setIfInBounds_toArray, List.set_cons_zero, List.set_cons_succ]
          refine restK_take (v := ?_) 9 rfl (by kernel_rfl) (by kernel_rfl) (by kernel_rfl) (by kernel_rfl) (by kernel_rfl) (by kernel_rfl) (fun _ _ _ h => h) (by rfl) ?_ ?_
          rotate_left
          · intro w9 h9; try dsimp only at h9
            obtain ⟨x9, rfl⟩ := later_of h9
            go_simp; try with_reducible rfl
          try simp only [Act.put, List.setIfInBounds_toArray, List.set_cons_zero, List.set_cons_succ]
          refine restK_take (v := ?_) 10 rfl (by kernel_rfl) (by kernel_rfl) (by kernel_rfl) (by kernel_rfl) (by kernel_rfl) (by kernel_rfl) (fun _ _ _ h => h) (by rfl) ?_ ?_
          rotate_left
          · intro w9 h9; try dsimp only at h9
            obtain ⟨x9, rfl⟩ := later_of h9
            go_simp; try with_reducible rfl
          try simp only [Act.put, List.setIfInBounds_toArray, List.set_cons_zero, List.set_cons_succ]
          refine restK_take (v := ?_) 11 rfl (by kernel_rfl) (by kernel_rfl) (by kernel_rfl) (by kernel_rfl) (by kernel_rfl) (by kernel_rfl) (fun _ _ _ h => h) (by rfl) ?_ ?_
          rotate_left
          · intro w9 h9; try dsimp only at h9
            obtain ⟨x9, rfl⟩ := later_of h9
            go_simp; try with_reducible rfl
          try simp only [Act.put, List.setIfInBounds_toArray, List.set_cons_zero, List.set_cons_succ]
          refine restK_take (v := ?_) 12 rfl (by kernel_rfl) (by kernel_rfl) (by kernel_rfl) (by kernel_rfl) (by kernel_rfl) (by kernel_rfl) (fun _ _ _ h => h) (by rfl) ?_ ?_
          rotate_left
          · intro w9 h9; try dsimp only at h9
            obtain ⟨x9, rfl⟩ := later_of h9
            go_simp; try with_reducible rfl
          try simp only [Act.put, List.setIfInBounds_toArray, List.set_cons_zero, List.set_cons_succ]
          refine restK_done (by kernel_rfl) (fun hS => ?_)
          clear hwj
          have Hmap := Lib.hid (hmap.same (w' := (wr.alloc (.cells #[.int .i64 c, .int .i64 s, .int .i64 x] 127)).drew) (Below.heap_alloc _ _ _ hmlt))
          clear hmap
          obtain ⟨w2, hrun, hmap2, hwr⟩ := Hmap.out.run_update Try.underlying162 Try.underlying2 x (.bool true)
          have Hmap2 := Lib.hid hmap2
          have Hwr := Lib.hid hwr
          clear hmap2 hwr
          go_wp2_with fail
          go_roundw
          case rel => exact ⟨j + 1 + 1, by omega, by go_num, by rw [Hid, Hs.out, seenAt_step hlt, HM.out]; rw [HU.out, HX.out, Hu.out, decide_eq_true HP.out]; rfl, by rw [usedL_succ hlt, HM.out, HU.out]; show MapI w2 _ (usedM (U ++ [x])); rw [← usedM_succ]; exact Hmap2.out, ((hbel.alloc hbel.size _).drew).trans (Hwr.out.below (by omega))⟩
          case measure => simp [intOf]; omega
        · have HF : Hid (seenOk l = false) := by
            rw [Hid, Hs.out, seenAt_step hlt, HM.out, prevC_succ hlt', HJ.out]
            simp only [decide_eq_true_eq] at hcp
            have h9 : decide (p < c) = false := by simp; omega
            simp [h9]
          have hwj : IntKind.i64.wrap (j : Int) = j := IntWalk.i64_in _ (by omega)
          go_wp2_with (first | (go_at_call 145; refine (c_impl_AskerOk _ _).mono ?_; rintro e w' ⟨rfl, rfl⟩) | (go_at_call 146; refine (c_impl_seqOk _ _).mono ?_; rintro e w' ⟨rfl, rfl⟩) | (go_at_call 88; refine (c_impl_indexOk _ _).mono ?_; rintro e w' ⟨rfl, rfl⟩))
          refine restK_begin [] (by kernel_rfl) ?_
          refine restK_take (v := ?_) 0 rfl (by kernel_rfl) (by kernel_rfl) (by kernel_rfl) (by kernel_rfl) (by kernel_rfl) (by kernel_rfl) (fun _ _ _ h => h) (by rfl) ?_ ?_
          rotate_left
          · intro w9 h9; try dsimp only at h9
            obtain ⟨x9, rfl⟩ := later_of h9
            go_simp; try with_reducible rfl
          try simp only [Act.put, List.setIfInBounds_toArray, List.set_cons_zero, List.set_cons_succ]
          refine restK_take (v := ?_) 1 rfl (by kernel_rfl) (by kernel_rfl) (by kernel_rfl) (by kernel_rfl) (by kernel_rfl) (by kernel_rfl) (fun _ _ _ h => h) (by rfl) ?_ ?_
          rotate_left
          · intro w9 h9; try dsimp only at h9
            obtain ⟨x9, rfl⟩ := later_of h9
            go_simp; try with_reducible rfl
          try simp only [Act.put, List.setIfInBounds_toArray, List.set_cons_zero, List.set_cons_succ]
          refine restK_take (v := ?_) 2 rfl (by kernel_rfl) (by kernel_rfl) (by kernel_rfl) (by kernel_rfl) (by kernel_rfl) (by kernel_rfl) (fun _ _ _ h => h) (by rfl) ?_ ?_
          rotate_left
          · intro w9 h9; try dsimp only at h9
            obtain ⟨x9, rfl⟩ := later_of h9
            go_simp; try with_reducible rfl
          try simp only [Act.put, List.setIfInBounds_toArray, List.set_cons_zero, List.set_cons_succ]
          refine restK_take (v := ?_) 3 rfl (by kernel_rfl) (by kernel_rfl) (by kernel_rfl) (by kernel_rfl) (by kernel_rfl) (by kernel_rfl) (fun _ _ _ h => h) (by rfl) ?_ ?_
          rotate_left
          · intro w9 h9; try dsimp only at h9
            obtain ⟨x9, rfl⟩ := later_of h9
            go_simp; try with_reducible rfl
          try simp only [Act.put, List.setIfInBounds_toArray, List.set_cons_zero, List.set_cons_succ]
          refine restK_take (v := ?_) 4 rfl (by kernel_rfl) (by kernel_rfl) (by kernel_rfl) (by kernel_rfl) (by kernel_rfl) (by kernel_rfl) (fun _ _ _ h => h) (by rfl) ?_ ?_
          rotate_left
          · intro w9 h9; try dsimp only at h9
            obtain ⟨x9, rfl⟩ := later_of h9
            go_simp; try with_reducible rfl
          try simp only [Act.put, List.setIfInBounds_toArray, List.set_cons_zero, List.set_cons_succ]
          refine restK_take (v := ?_) 5 rfl (by kernel_rfl) (by kernel_rfl) (by kernel_rfl) (by kernel_rfl) (by kernel_rfl) (by kernel_rfl) (fun _ _ _ h => h) (by rfl) ?_ ?_
          rotate_left
          · intro w9 h9; try dsimp only at h9
            obtain ⟨x9, rfl⟩ := later_of h9
            go_simp; try with_reducible rfl
          try simp only [Act.put, List.setIfInBounds_toArray, List.set_cons_zero, List.set_cons_succ]
          refine restK_take (v := ?_) 6 rfl (by kernel_rfl) (by kernel_rfl) (by kernel_rfl) (by kernel_rfl) (by kernel_rfl) (by kernel_rfl) (fun _ _ _ h => h) (by rfl) ?_ ?_
          rotate_left
          · intro w9 h9; try dsimp only at h9
            obtain ⟨x9, rfl⟩ := later_of h9
            go_simp; try with_reducible rfl
          try simp only [Act.put, List.setIfInBounds_toArray, List.set_cons_zero, List.set_cons_succ]
          refine restK_take (v := ?_) 7 rfl (by kernel_rfl) (by kernel_rfl) (by kernel_rfl) (by kernel_rfl) (by kernel_rfl) (by kernel_rfl) (fun _ _ _ h => h) (by rfl) ?_ ?_
          rotate_left
          · intro w9 h9; try dsimp only at h9
            obtain ⟨x9, rfl⟩ := later_of h9
            go_simp; try with_reducible rfl
          try simp only [Act.put, List.setIfInBounds_toArray, List.set_cons_zero, List.set_cons_succ]
          refine restK_take (v := ?_) 8 rfl (by kernel_rfl) (by kernel_rfl) (by kernel_rfl) (by kernel_rfl) (by kernel_rfl) (by kernel_rfl) (fun _ _ _ h => h) (by rfl) ?_ ?_
          rotate_left
          · intro w9 h9; try dsimp only at h9
            obtain ⟨x9, rfl⟩ := later_of h9
            go_simp; try with_reducible rfl
          try simp only [Act.put, List.setIfInBounds_toArray, List.set_cons_zero, List.set_cons_succ]
          refine restK_take (v := ?_) 9 rfl (by kernel_rfl) (by kernel_rfl) (by kernel_rfl) (by kernel_rfl) (by kernel_rfl) (by kernel_rfl) (fun _ _ _ h => h) (by rfl) ?_ ?_
          rotate_left
          · intro w9 h9; try dsimp only at h9
            obtain ⟨x9, rfl⟩ := later_of h9
            go_simp; try with_reducible rfl
          try simp only [Act.put, List.setIfInBounds_toArray, List.set_cons_zero, List.set_cons_succ]
          refine restK_take (v := ?_) 10 rfl (by kernel_rfl) (by kernel_rfl) (by kernel_rfl) (by kernel_rfl) (by kernel_rfl) (by kernel_rfl) (fun _ _ _ h => h) (by rfl) ?_ ?_
          rotate_left
          · intro w9 h9; try dsimp only at h9
            obtain ⟨x9, rfl⟩ := later_of h9
            go_simp; try with_reducible rfl
          try simp only [Act.put, List.setIfInBounds_toArray, List.set_cons_zero, List.set_cons_succ]
          refine restK_take (v := ?_) 11 rfl (by kernel_rfl) (by kernel_rfl) (by kernel_rfl) (by kernel_rfl) (by kernel_rfl) (by kernel_rfl) (fun _ _ _ h => h) (by rfl) ?_ ?_
          rotate_left
          · intro w9 h9; try dsimp only at h9
            obtain ⟨x9, rfl⟩ := later_of h9
            go_simp; try with_reducible rfl
          try simp only [Act.put, List.setIfInBounds_toArray, List.set_cons_zero, List.set_cons_succ]
          refine restK_take (v := ?_) 12 rfl (by kernel_rfl) (by kernel_rfl) (by kernel_rfl) (by kernel_rfl) (by kernel_rfl) (by kernel_rfl) (fun _ _ _ h => h) (by rfl) ?_ ?_
          rotate_left
          · intro w9 h9; try dsimp only at h9
            obtain ⟨x9, rfl⟩ := later_of h9
            go_simp; try with_reducible rfl
          try simp only [Act.put, List.setIfInBounds_toArray, List.set_cons_zero, List.set_cons_succ]
          refine restK_done (by kernel_rfl) (fun hS => ?_)
          go_wp2_with fail
          go_ret
          exact ⟨by rw [HF.out]; rfl, by (repeat (first | with_reducible exact Below.refl _ _ | ((with_reducible refine bl_alloc ?_ ?_); (focus (first | (simp; done) | (simp; omega) | omega))) | ((with_reducible refine bl_set ?_ ?_); (focus (first | (simp; done) | (simp; omega) | omega))) | ((with_reducible refine bl_later ?_ ?_); (focus (first | (simp; done) | (simp; omega) | omega))) | with_reducible refine bl_drew ?_ | with_reducible refine bl_drewN ?_ | ((with_reducible refine bl_step (by assumption) ?_ ?_); (focus (first | (simp; done) | (simp; omega) | omega)))))⟩
    · obtain rfl : k = l.length := by omega
      go_wp2_with fail
      go_ret
      exact ⟨by rw [Hs.out, seenAt_end]; rfl, hbel⟩

end Go.Proofs.Ytmjafclpeknpcaa
