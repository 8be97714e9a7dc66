/- Texts of the proof, merged: part 1. -/
import Derived.Test.YtmjafclpeknpcaaNSlot
import Derived.WalkKit
import Derived.WalkSpells
import Derived.Deep.QuietTactic
import Derived.BigQuiet
import Derived.Deep.Light
import Derived.Lib.Hide
import Derived.IntWalk
import Derived.Test.YtmjafclpeknpcaaTakeK
import Derived.Test.YtmjafclpeknpcaaNMark
import Derived.Test.YtmjafclpeknpcaaNTo
import Derived.Test.YtmjafclpeknpcaaMarkR
import Derived.Test.YtmjafclpeknpcaaSlMark
import Derived.Test.YtmjafclpeknpcaaNTwoCopy
import Derived.Deep.DeepCutAuto
/- Walks of functions of the program, printed by a program of the prover. -/
namespace Go.Proofs.Ytmjafclpeknpcaa
open Go.ChangeShapes Go.WideShapes Go.ChangeAt Go.RowKit Go.Deep
set_option maxHeartbeats 3200000
set_option maxRecDepth 100000

abbrev DiskT := List (List Int) × List (Int × List Int)
def RetTwo (w : World) (R : (DiskT × DiskT) × Bool) (en : Ending) (w' : World) : Prop :=
  ∃ a1 c1 a2 c2 a3 c3 a4 c4, en = .returned (.tuple #[.agg #[.slice a1 R.1.1.1.length c1, .slice a2 R.1.1.2.length c2, .slice a3 R.1.2.1.length c3, .slice a4 R.1.2.2.length c4], .bool R.2]) ∧ Sp twoO w' w.heap.size w'.heap.size R.1 [.slice a1 R.1.1.1.length c1, .slice a2 R.1.1.2.length c2, .slice a3 R.1.2.1.length c3, .slice a4 R.1.2.2.length c4] ∧ Below w.heap.size w w'
def bothWroteF (d e : DiskT) (x : Int) (r : List Int) : (DiskT × DiskT) × Bool := if bothC d e x r then (((d.1, d.2 ++ [(x, withSum r)]), (e.1, e.2 ++ [(x, withSum r)])), true) else ((d, e), false)
theorem bothWroteF_y {d e : DiskT} {x : Int} {r : List Int} (h : bothC d e x r = true) : bothWroteF d e x r = (((d.1, d.2 ++ [(x, withSum r)]), (e.1, e.2 ++ [(x, withSum r)])), true) := if_pos h
theorem bothWroteF_n {d e : DiskT} {x : Int} {r : List Int} (h : bothC d e x r = false) : bothWroteF d e x r = ((d, e), false) := if_neg (by rw [h]; simp)
def keptRowF (d e : DiskT) (x : Int) : Option (List Int) → (DiskT × DiskT) × Bool
  | none => if keptOk d e then ((d, e), false) else ((([], []), ([], [])), false)
  | some r => if keptOk d e then bothWroteF d e x r else ((([], []), ([], [])), false)
theorem keptRowF_z {d e : DiskT} {x : Int} (o : Option (List Int)) (h : keptOk d e = false) : keptRowF d e x o = ((([], []), ([], [])), false) := by
  cases o <;> exact if_neg (by rw [h]; simp)
theorem keptRowF_none {d e : DiskT} {x : Int} (h : keptOk d e = true) : keptRowF d e x none = ((d, e), false) := if_pos h
theorem keptRowF_some {d e : DiskT} {x : Int} {r : List Int} (h : keptOk d e = true) : keptRowF d e x (some r) = bothWroteF d e x r := if_pos h
theorem keptOk_t {d e : DiskT} (h : keptOk d e = true) : twoOk d e = true := by
  unfold keptOk at h
  simp only [Bool.and_eq_true] at h
  exact h.1
theorem c_spec_BothWrote (ak aw bk bw : Option Addr) (ck cw dk dw : Nat) (d e : DiskT) (x : Int) (ar : Option Addr) (cr : Nat) (r : List Int) (w : World) (h : DiskR w ak aw d) (h2 : DiskR w bk bw e) (hr : IntsR w ar r) (hT : twoOk d e = true) :
    Calls Try.prog 33 #[.agg #[.slice ak d.1.length ck, .slice aw d.2.length cw, .slice bk e.1.length dk, .slice bw e.2.length dw], .int .i64 x, .slice ar r.length cr] w (RetTwo w (bothWroteF d e x r)) := by
  cases hC : bothC d e x r
  · rw [bothWroteF_n hC]; exact c_spec_BothWrote_n ak aw bk bw ck cw dk dw d e x ar cr r w h h2 hr hT hC
  · rw [bothWroteF_y hC]; exact c_spec_BothWrote_y ak aw bk bw ck cw dk dw d e x ar cr r w h h2 hr hT hC
theorem c_impl_BothWrote (ak aw bk bw : Option Addr) (ck cw dk dw : Nat) (d e : DiskT) (x : Int) (ar : Option Addr) (cr : Nat) (r : List Int) (w : World) (h : DiskR w ak aw d) (h2 : DiskR w bk bw e) (hr : IntsR w ar r) (hT : twoOk d e = true) :
    Calls Try.prog 87 #[.agg #[.slice ak d.1.length ck, .slice aw d.2.length cw, .slice bk e.1.length dk, .slice bw e.2.length dw], .int .i64 x, .slice ar r.length cr] w (RetTwo w (bothWroteF d e x r)) := by
  cases hC : bothC d e x r
  · rw [bothWroteF_n hC]; exact c_impl_BothWrote_n ak aw bk bw ck cw dk dw d e x ar cr r w h h2 hr hT hC
  · rw [bothWroteF_y hC]; exact c_impl_BothWrote_y ak aw bk bw ck cw dk dw d e x ar cr r w h h2 hr hT hC
theorem sp_zero (w : World) (lo hi : Nat) : Sp twoO w lo hi ((([], []), ([], [])) : DiskT × DiskT) [.slice none 0 0, .slice none 0 0, .slice none 0 0, .slice none 0 0] := by
  have h : ∀ {α : Type} (A : En α), (listE A).rd w [] [.slice none 0 0] [] := fun A => ⟨none, 0, rfl, by simp, by unfold maxLen; omega, .inl ⟨rfl, rfl⟩⟩
  exact ⟨[], ⟨_, _, [], [], rfl, rfl, ⟨_, _, [], [], rfl, rfl, h _, h _⟩, ⟨_, _, [], [], rfl, rfl, h _, h _⟩⟩, by simp, by simp, by simp [Free]⟩
theorem c_impl_keptRow_none (ak aw bk bw : Option Addr) (ck cw dk dw : Nat) (d e : DiskT) (x : Int) (w : World) (h : DiskR w ak aw d) (h2 : DiskR w bk bw e) :
    Calls Try.prog 38 #[.agg #[.slice ak d.1.length ck, .slice aw d.2.length cw, .slice bk e.1.length dk, .slice bw e.2.length dw], .int .i64 x, .slice none 0 0] w (RetTwo w (keptRowF d e x none)) := by
  have HD : Hid (∀ V, Below w.heap.size w V → DiskR V ak aw d) := fun V hb => h.below hb
  have HE : Hid (∀ V, Below w.heap.size w V → DiskR V bk bw e) := fun V hb => h2.below hb
  clear h h2
  cases hK : keptOk d e
  · have HK := Lib.hid hK
    clear hK
    have hnil := fun (V : World) (a : Option Addr) (n c : Nat) => Lib.run_eql_slice_nil (P := Try.prog) V 85 2 a n c 0 0 Try.underlying85
    go_enter Try.func38, Try.ntmps38
    go_wp2_with fail
    refine (c_impl_KeptOk ak aw bk bw ck cw dk dw d e _ (HD.out _ (by (repeat (first | with_reducible exact Below.refl _ _ | ((with_reducible refine bl_alloc ?_ ?_); (focus (first | (simp; done) | (simp; omega) | omega))) | ((with_reducible refine bl_set ?_ ?_); (focus (first | (simp; done) | (simp; omega) | omega))) | ((with_reducible refine bl_later ?_ ?_); (focus (first | (simp; done) | (simp; omega) | omega))) | with_reducible refine bl_drew ?_ | with_reducible refine bl_drewN ?_ | ((with_reducible refine bl_step (by assumption) ?_ ?_); (focus (first | (simp; done) | (simp; omega) | omega))))))) (HE.out _ (by (repeat (first | with_reducible exact Below.refl _ _ | ((with_reducible refine bl_alloc ?_ ?_); (focus (first | (simp; done) | (simp; omega) | omega))) | ((with_reducible refine bl_set ?_ ?_); (focus (first | (simp; done) | (simp; omega) | omega))) | ((with_reducible refine bl_later ?_ ?_); (focus (first | (simp; done) | (simp; omega) | omega))) | with_reducible refine bl_drew ?_ | with_reducible refine bl_drewN ?_ | ((with_reducible refine bl_step (by assumption) ?_ ?_); (focus (first | (simp; done) | (simp; omega) | omega)))))))).mono ?_
    rw [HK.out]
    rintro en w2 ⟨rfl, hb2⟩
    have hz2 := hb2.size
    simp only [World.size_alloc] at hz2
    have hca0 := fun (o : Nat) => hb2.cell (p := ⟨w.heap.size, o, none⟩) (by (first | (simp; done) | (simp; omega) | omega))
    have hfa0 := fun (o : Nat) => hb2.frozen (p := ⟨w.heap.size, o, none⟩) (by (first | (simp; done) | (simp; omega) | omega))
    have hca1 := fun (o : Nat) => hb2.cell (p := ⟨w.heap.size + 1, o, none⟩) (by (first | (simp; done) | (simp; omega) | omega))
    have hfa1 := fun (o : Nat) => hb2.frozen (p := ⟨w.heap.size + 1, o, none⟩) (by (first | (simp; done) | (simp; omega) | omega))
    have hla0 : w.heap.size < w2.heap.size := by omega
    have hla1 : w.heap.size + 1 < w2.heap.size := by omega
    go_wp2_with fail
    refine bodyPost_ret (v := .tuple #[.agg #[.slice none 0 0, .slice none 0 0, .slice none 0 0, .slice none 0 0], .bool false]) (by simp [results, Try.results38, go_sem, *]) rfl ⟨none, 0, none, 0, none, 0, none, 0, ?_, ?_, ?_⟩
    · rw [keptRowF_z _ HK.out]; rfl
    · rw [keptRowF_z _ HK.out]
      exact sp_zero _ _ _
    · (repeat (first | with_reducible exact Below.refl _ _ | ((with_reducible refine bl_alloc ?_ ?_); (focus (first | (simp; done) | (simp; omega) | omega))) | ((with_reducible refine bl_set ?_ ?_); (focus (first | (simp; done) | (simp; omega) | omega))) | ((with_reducible refine bl_later ?_ ?_); (focus (first | (simp; done) | (simp; omega) | omega))) | with_reducible refine bl_drew ?_ | with_reducible refine bl_drewN ?_ | ((with_reducible refine bl_step (by assumption) ?_ ?_); (focus (first | (simp; done) | (simp; omega) | omega)))))
  · have HK := Lib.hid hK
    have HT := Lib.hid (keptOk_t hK)
    have HO1 := Lib.hid (twoOk_1 HT.out).1
    have HO2 := Lib.hid (twoOk_1 HT.out).2
    clear hK
    have hnil := fun (V : World) (a : Option Addr) (n c : Nat) => Lib.run_eql_slice_nil (P := Try.prog) V 85 2 a n c 0 0 Try.underlying85
    go_enter Try.func38, Try.ntmps38
    go_wp2_with fail
    refine (c_impl_KeptOk ak aw bk bw ck cw dk dw d e _ (HD.out _ (by (repeat (first | with_reducible exact Below.refl _ _ | ((with_reducible refine bl_alloc ?_ ?_); (focus (first | (simp; done) | (simp; omega) | omega))) | ((with_reducible refine bl_set ?_ ?_); (focus (first | (simp; done) | (simp; omega) | omega))) | ((with_reducible refine bl_later ?_ ?_); (focus (first | (simp; done) | (simp; omega) | omega))) | with_reducible refine bl_drew ?_ | with_reducible refine bl_drewN ?_ | ((with_reducible refine bl_step (by assumption) ?_ ?_); (focus (first | (simp; done) | (simp; omega) | omega))))))) (HE.out _ (by (repeat (first | with_reducible exact Below.refl _ _ | ((with_reducible refine bl_alloc ?_ ?_); (focus (first | (simp; done) | (simp; omega) | omega))) | ((with_reducible refine bl_set ?_ ?_); (focus (first | (simp; done) | (simp; omega) | omega))) | ((with_reducible refine bl_later ?_ ?_); (focus (first | (simp; done) | (simp; omega) | omega))) | with_reducible refine bl_drew ?_ | with_reducible refine bl_drewN ?_ | ((with_reducible refine bl_step (by assumption) ?_ ?_); (focus (first | (simp; done) | (simp; omega) | omega)))))))).mono ?_
    rw [HK.out]
    rintro en w2 ⟨rfl, hb2⟩
    have hz2 := hb2.size
    simp only [World.size_alloc] at hz2
    have hca0 := fun (o : Nat) => hb2.cell (p := ⟨w.heap.size, o, none⟩) (by (first | (simp; done) | (simp; omega) | omega))
    have hfa0 := fun (o : Nat) => hb2.frozen (p := ⟨w.heap.size, o, none⟩) (by (first | (simp; done) | (simp; omega) | omega))
    have hca1 := fun (o : Nat) => hb2.cell (p := ⟨w.heap.size + 1, o, none⟩) (by (first | (simp; done) | (simp; omega) | omega))
    have hfa1 := fun (o : Nat) => hb2.frozen (p := ⟨w.heap.size + 1, o, none⟩) (by (first | (simp; done) | (simp; omega) | omega))
    have hla0 : w.heap.size < w2.heap.size := by omega
    have hla1 : w.heap.size + 1 < w2.heap.size := by omega
    go_wp2_with fail
    refine (c_impl_copyTwo ak aw bk bw ck cw dk dw d e _ (HD.out _ (by (repeat (first | with_reducible exact Below.refl _ _ | ((with_reducible refine bl_alloc ?_ ?_); (focus (first | (simp; done) | (simp; omega) | omega))) | ((with_reducible refine bl_set ?_ ?_); (focus (first | (simp; done) | (simp; omega) | omega))) | ((with_reducible refine bl_later ?_ ?_); (focus (first | (simp; done) | (simp; omega) | omega))) | with_reducible refine bl_drew ?_ | with_reducible refine bl_drewN ?_ | ((with_reducible refine bl_step (by assumption) ?_ ?_); (focus (first | (simp; done) | (simp; omega) | omega))))))) (HE.out _ (by (repeat (first | with_reducible exact Below.refl _ _ | ((with_reducible refine bl_alloc ?_ ?_); (focus (first | (simp; done) | (simp; omega) | omega))) | ((with_reducible refine bl_set ?_ ?_); (focus (first | (simp; done) | (simp; omega) | omega))) | ((with_reducible refine bl_later ?_ ?_); (focus (first | (simp; done) | (simp; omega) | omega))) | with_reducible refine bl_drew ?_ | with_reducible refine bl_drewN ?_ | ((with_reducible refine bl_step (by assumption) ?_ ?_); (focus (first | (simp; done) | (simp; omega) | omega))))))) (diskOk_B HO1.out) (diskOk_B HO2.out)).mono ?_
    rintro en w9 ⟨b1, k1, b2, k2, b3, k3, b4, k4, rfl, hs9, hb9⟩
    have hz9 := hb9.size
    have Hs9 := Lib.hid hs9
    clear hs9
    have hcz0 := fun (o : Nat) => hb9.cell (p := ⟨w.heap.size + 1, o, none⟩) (by (first | (simp; done) | (simp; omega) | omega))
    have hfz0 := fun (o : Nat) => hb9.frozen (p := ⟨w.heap.size + 1, o, none⟩) (by (first | (simp; done) | (simp; omega) | omega))
    have hlz0 : w.heap.size < w9.heap.size := by omega
    have hlz1 : w.heap.size + 1 < w9.heap.size := by omega
    go_wp2_with fail
    refine bodyPost_ret (v := .tuple #[.agg #[.slice b1 d.1.length k1, .slice b2 d.2.length k2, .slice b3 e.1.length k3, .slice b4 e.2.length k4], .bool false]) (by simp [results, Try.results38, go_sem, *]) rfl ⟨b1, k1, b2, k2, b3, k3, b4, k4, ?_, ?_, ?_⟩
    · rw [keptRowF_none HK.out]
    · rw [keptRowF_none HK.out]
      exact (Hs9.out.kp (by (repeat (first | with_reducible exact kp_refl | ((with_reducible refine kp_alloc ?_ ?_); (focus (first | (simp; done) | (simp; omega) | omega))) | ((with_reducible refine kp_set ?_ ?_); (focus (first | (simp; done) | (simp; omega) | omega))) | with_reducible refine kp_drew ?_ | with_reducible refine kp_drewN ?_ | ((with_reducible refine kp_step (by assumption) ?_ ?_); (focus (first | (simp; done) | (simp; omega) | omega))))))).wide (by omega) (by (first | (simp; done) | (simp; omega) | omega))
    · (repeat (first | with_reducible exact Below.refl _ _ | ((with_reducible refine bl_alloc ?_ ?_); (focus (first | (simp; done) | (simp; omega) | omega))) | ((with_reducible refine bl_set ?_ ?_); (focus (first | (simp; done) | (simp; omega) | omega))) | ((with_reducible refine bl_later ?_ ?_); (focus (first | (simp; done) | (simp; omega) | omega))) | with_reducible refine bl_drew ?_ | with_reducible refine bl_drewN ?_ | ((with_reducible refine bl_step (by assumption) ?_ ?_); (focus (first | (simp; done) | (simp; omega) | omega)))))
theorem c_impl_keptRow_some (ak aw bk bw : Option Addr) (ck cw dk dw : Nat) (d e : DiskT) (x : Int) (gr : Addr) (cr : Nat) (r : List Int) (w : World) (h : DiskR w ak aw d) (h2 : DiskR w bk bw e) (hr : IntsR w (some gr) r) :
    Calls Try.prog 38 #[.agg #[.slice ak d.1.length ck, .slice aw d.2.length cw, .slice bk e.1.length dk, .slice bw e.2.length dw], .int .i64 x, .slice (some gr) r.length cr] w (RetTwo w (keptRowF d e x (some r))) := by
  have HRo : Hid (∀ V, Below w.heap.size w V → IntsR V (some gr) r) := fun V hb => hr.below hb
  clear hr
  have HD : Hid (∀ V, Below w.heap.size w V → DiskR V ak aw d) := fun V hb => h.below hb
  have HE : Hid (∀ V, Below w.heap.size w V → DiskR V bk bw e) := fun V hb => h2.below hb
  clear h h2
  cases hK : keptOk d e
  · have HK := Lib.hid hK
    clear hK
    have hnil := fun (V : World) (a : Option Addr) (n c : Nat) => Lib.run_eql_slice_nil (P := Try.prog) V 85 2 a n c 0 0 Try.underlying85
    go_enter Try.func38, Try.ntmps38
    go_wp2_with fail
    refine (c_impl_KeptOk ak aw bk bw ck cw dk dw d e _ (HD.out _ (by (repeat (first | with_reducible exact Below.refl _ _ | ((with_reducible refine bl_alloc ?_ ?_); (focus (first | (simp; done) | (simp; omega) | omega))) | ((with_reducible refine bl_set ?_ ?_); (focus (first | (simp; done) | (simp; omega) | omega))) | ((with_reducible refine bl_later ?_ ?_); (focus (first | (simp; done) | (simp; omega) | omega))) | with_reducible refine bl_drew ?_ | with_reducible refine bl_drewN ?_ | ((with_reducible refine bl_step (by assumption) ?_ ?_); (focus (first | (simp; done) | (simp; omega) | omega))))))) (HE.out _ (by (repeat (first | with_reducible exact Below.refl _ _ | ((with_reducible refine bl_alloc ?_ ?_); (focus (first | (simp; done) | (simp; omega) | omega))) | ((with_reducible refine bl_set ?_ ?_); (focus (first | (simp; done) | (simp; omega) | omega))) | ((with_reducible refine bl_later ?_ ?_); (focus (first | (simp; done) | (simp; omega) | omega))) | with_reducible refine bl_drew ?_ | with_reducible refine bl_drewN ?_ | ((with_reducible refine bl_step (by assumption) ?_ ?_); (focus (first | (simp; done) | (simp; omega) | omega)))))))).mono ?_
    rw [HK.out]
    rintro en w2 ⟨rfl, hb2⟩
    have hz2 := hb2.size
    simp only [World.size_alloc] at hz2
    have hca0 := fun (o : Nat) => hb2.cell (p := ⟨w.heap.size, o, none⟩) (by (first | (simp; done) | (simp; omega) | omega))
    have hfa0 := fun (o : Nat) => hb2.frozen (p := ⟨w.heap.size, o, none⟩) (by (first | (simp; done) | (simp; omega) | omega))
    have hca1 := fun (o : Nat) => hb2.cell (p := ⟨w.heap.size + 1, o, none⟩) (by (first | (simp; done) | (simp; omega) | omega))
    have hfa1 := fun (o : Nat) => hb2.frozen (p := ⟨w.heap.size + 1, o, none⟩) (by (first | (simp; done) | (simp; omega) | omega))
    have hla0 : w.heap.size < w2.heap.size := by omega
    have hla1 : w.heap.size + 1 < w2.heap.size := by omega
    go_wp2_with fail
    refine bodyPost_ret (v := .tuple #[.agg #[.slice none 0 0, .slice none 0 0, .slice none 0 0, .slice none 0 0], .bool false]) (by simp [results, Try.results38, go_sem, *]) rfl ⟨none, 0, none, 0, none, 0, none, 0, ?_, ?_, ?_⟩
    · rw [keptRowF_z _ HK.out]; rfl
    · rw [keptRowF_z _ HK.out]
      exact sp_zero _ _ _
    · (repeat (first | with_reducible exact Below.refl _ _ | ((with_reducible refine bl_alloc ?_ ?_); (focus (first | (simp; done) | (simp; omega) | omega))) | ((with_reducible refine bl_set ?_ ?_); (focus (first | (simp; done) | (simp; omega) | omega))) | ((with_reducible refine bl_later ?_ ?_); (focus (first | (simp; done) | (simp; omega) | omega))) | with_reducible refine bl_drew ?_ | with_reducible refine bl_drewN ?_ | ((with_reducible refine bl_step (by assumption) ?_ ?_); (focus (first | (simp; done) | (simp; omega) | omega)))))
  · have HK := Lib.hid hK
    have HT := Lib.hid (keptOk_t hK)
    have HO1 := Lib.hid (twoOk_1 HT.out).1
    have HO2 := Lib.hid (twoOk_1 HT.out).2
    clear hK
    have hnil := fun (V : World) (a : Option Addr) (n c : Nat) => Lib.run_eql_slice_nil (P := Try.prog) V 85 2 a n c 0 0 Try.underlying85
    go_enter Try.func38, Try.ntmps38
    go_wp2_with fail
    refine (c_impl_KeptOk ak aw bk bw ck cw dk dw d e _ (HD.out _ (by (repeat (first | with_reducible exact Below.refl _ _ | ((with_reducible refine bl_alloc ?_ ?_); (focus (first | (simp; done) | (simp; omega) | omega))) | ((with_reducible refine bl_set ?_ ?_); (focus (first | (simp; done) | (simp; omega) | omega))) | ((with_reducible refine bl_later ?_ ?_); (focus (first | (simp; done) | (simp; omega) | omega))) | with_reducible refine bl_drew ?_ | with_reducible refine bl_drewN ?_ | ((with_reducible refine bl_step (by assumption) ?_ ?_); (focus (first | (simp; done) | (simp; omega) | omega))))))) (HE.out _ (by (repeat (first | with_reducible exact Below.refl _ _ | ((with_reducible refine bl_alloc ?_ ?_); (focus (first | (simp; done) | (simp; omega) | omega))) | ((with_reducible refine bl_set ?_ ?_); (focus (first | (simp; done) | (simp; omega) | omega))) | ((with_reducible refine bl_later ?_ ?_); (focus (first | (simp; done) | (simp; omega) | omega))) | with_reducible refine bl_drew ?_ | with_reducible refine bl_drewN ?_ | ((with_reducible refine bl_step (by assumption) ?_ ?_); (focus (first | (simp; done) | (simp; omega) | omega)))))))).mono ?_
    rw [HK.out]
    rintro en w2 ⟨rfl, hb2⟩
    have hz2 := hb2.size
    simp only [World.size_alloc] at hz2
    have hca0 := fun (o : Nat) => hb2.cell (p := ⟨w.heap.size, o, none⟩) (by (first | (simp; done) | (simp; omega) | omega))
    have hfa0 := fun (o : Nat) => hb2.frozen (p := ⟨w.heap.size, o, none⟩) (by (first | (simp; done) | (simp; omega) | omega))
    have hca1 := fun (o : Nat) => hb2.cell (p := ⟨w.heap.size + 1, o, none⟩) (by (first | (simp; done) | (simp; omega) | omega))
    have hfa1 := fun (o : Nat) => hb2.frozen (p := ⟨w.heap.size + 1, o, none⟩) (by (first | (simp; done) | (simp; omega) | omega))
    have hla0 : w.heap.size < w2.heap.size := by omega
    have hla1 : w.heap.size + 1 < w2.heap.size := by omega
    go_wp2_with fail
    refine (c_impl_BothWrote ak aw bk bw ck cw dk dw d e x (some gr) cr r _ (HD.out _ (by (repeat (first | with_reducible exact Below.refl _ _ | ((with_reducible refine bl_alloc ?_ ?_); (focus (first | (simp; done) | (simp; omega) | omega))) | ((with_reducible refine bl_set ?_ ?_); (focus (first | (simp; done) | (simp; omega) | omega))) | ((with_reducible refine bl_later ?_ ?_); (focus (first | (simp; done) | (simp; omega) | omega))) | with_reducible refine bl_drew ?_ | with_reducible refine bl_drewN ?_ | ((with_reducible refine bl_step (by assumption) ?_ ?_); (focus (first | (simp; done) | (simp; omega) | omega))))))) (HE.out _ (by (repeat (first | with_reducible exact Below.refl _ _ | ((with_reducible refine bl_alloc ?_ ?_); (focus (first | (simp; done) | (simp; omega) | omega))) | ((with_reducible refine bl_set ?_ ?_); (focus (first | (simp; done) | (simp; omega) | omega))) | ((with_reducible refine bl_later ?_ ?_); (focus (first | (simp; done) | (simp; omega) | omega))) | with_reducible refine bl_drew ?_ | with_reducible refine bl_drewN ?_ | ((with_reducible refine bl_step (by assumption) ?_ ?_); (focus (first | (simp; done) | (simp; omega) | omega))))))) (HRo.out _ (by (repeat (first | with_reducible exact Below.refl _ _ | ((with_reducible refine bl_alloc ?_ ?_); (focus (first | (simp; done) | (simp; omega) | omega))) | ((with_reducible refine bl_set ?_ ?_); (focus (first | (simp; done) | (simp; omega) | omega))) | ((with_reducible refine bl_later ?_ ?_); (focus (first | (simp; done) | (simp; omega) | omega))) | with_reducible refine bl_drew ?_ | with_reducible refine bl_drewN ?_ | ((with_reducible refine bl_step (by assumption) ?_ ?_); (focus (first | (simp; done) | (simp; omega) | omega))))))) HT.out).mono ?_
    rintro en w9 ⟨b1, k1, b2, k2, b3, k3, b4, k4, rfl, hs9, hb9⟩
    have hz9 := hb9.size
    have Hs9 := Lib.hid hs9
    clear hs9
    have hcz0 := fun (o : Nat) => hb9.cell (p := ⟨w.heap.size + 1, o, none⟩) (by (first | (simp; done) | (simp; omega) | omega))
    have hfz0 := fun (o : Nat) => hb9.frozen (p := ⟨w.heap.size + 1, o, none⟩) (by (first | (simp; done) | (simp; omega) | omega))
    have hlz0 : w.heap.size < w9.heap.size := by omega
    have hlz1 : w.heap.size + 1 < w9.heap.size := by omega
    go_wp2_with fail
    refine bodyPost_ret (v := .tuple #[.agg #[.slice b1 (bothWroteF d e x r).1.1.1.length k1, .slice b2 (bothWroteF d e x r).1.1.2.length k2, .slice b3 (bothWroteF d e x r).1.2.1.length k3, .slice b4 (bothWroteF d e x r).1.2.2.length k4], .bool (bothWroteF d e x r).2]) (by simp [results, Try.results38, go_sem, *]) rfl ⟨b1, k1, b2, k2, b3, k3, b4, k4, ?_, ?_, ?_⟩
    · rw [keptRowF_some HK.out]
    · rw [keptRowF_some HK.out]
      exact (Hs9.out.kp (by (repeat (first | with_reducible exact kp_refl | ((with_reducible refine kp_alloc ?_ ?_); (focus (first | (simp; done) | (simp; omega) | omega))) | ((with_reducible refine kp_set ?_ ?_); (focus (first | (simp; done) | (simp; omega) | omega))) | with_reducible refine kp_drew ?_ | with_reducible refine kp_drewN ?_ | ((with_reducible refine kp_step (by assumption) ?_ ?_); (focus (first | (simp; done) | (simp; omega) | omega))))))).wide (by omega) (by (first | (simp; done) | (simp; omega) | omega))
    · (repeat (first | with_reducible exact Below.refl _ _ | ((with_reducible refine bl_alloc ?_ ?_); (focus (first | (simp; done) | (simp; omega) | omega))) | ((with_reducible refine bl_set ?_ ?_); (focus (first | (simp; done) | (simp; omega) | omega))) | ((with_reducible refine bl_later ?_ ?_); (focus (first | (simp; done) | (simp; omega) | omega))) | with_reducible refine bl_drew ?_ | with_reducible refine bl_drewN ?_ | ((with_reducible refine bl_step (by assumption) ?_ ?_); (focus (first | (simp; done) | (simp; omega) | omega)))))

end Go.Proofs.Ytmjafclpeknpcaa
/- Walks of functions of the program, printed by a program of the prover. -/
namespace Go.Proofs.Ytmjafclpeknpcaa
open Go.ChangeShapes Go.WideShapes Go.ChangeAt Go.RowKit Go.Deep
set_option maxHeartbeats 3200000
set_option maxRecDepth 100000

def keptEntryF (d e : DiskT) (i t c s k a b x y : Int) : (DiskT × DiskT) × Bool := keptRowF d e (slotOf i) (if entryOk i t c s k a b x y then some [i, t, c, s, k, a, b, x, y, i, i] else none)
theorem keptEntryF_y {d e : DiskT} {i t c s k a b x y : Int} (h : entryOk i t c s k a b x y = true) : keptEntryF d e i t c s k a b x y = keptRowF d e (slotOf i) (some [i, t, c, s, k, a, b, x, y, i, i]) := by unfold keptEntryF; rw [h]; rfl
theorem keptEntryF_n {d e : DiskT} {i t c s k a b x y : Int} (h : entryOk i t c s k a b x y = false) : keptEntryF d e i t c s k a b x y = keptRowF d e (slotOf i) none := by unfold keptEntryF; rw [h]; rfl
theorem row11_ok {i t c s k a b x y : Int} (yi : inI64 i) (yt : inI64 t) (yc : inI64 c) (ys : inI64 s) (yk : inI64 k) (ya : inI64 a) (yb : inI64 b) (yx : inI64 x) (yy : inI64 y) : ∀ z ∈ ([i, t, c, s, k, a, b, x, y, i, i] : List Int), inI64 z := by simp [yi, yt, yc, ys, yk, ya, yb, yx, yy]
theorem c_impl_KeptEntry (ak aw bk bw : Option Addr) (ck cw dk dw : Nat) (d e : DiskT) (i t c s k a b x y : Int) (w : World) (h : DiskR w ak aw d) (h2 : DiskR w bk bw e) (yi : inI64 i) (yt : inI64 t) (yc : inI64 c) (ys : inI64 s) (yk : inI64 k) (ya : inI64 a) (yb : inI64 b) (yx : inI64 x) (yy : inI64 y) :
    Calls Try.prog 11 #[.agg #[.slice ak d.1.length ck, .slice aw d.2.length cw, .slice bk e.1.length dk, .slice bw e.2.length dw], .agg #[.int .i64 i, .int .i64 t, .int .i64 c, .int .i64 s, .int .i64 k, .int .i64 a, .int .i64 b, .int .i64 x, .int .i64 y]] w (RetTwo w (keptEntryF d e i t c s k a b x y)) := by
  have HD : Hid (∀ V, Below w.heap.size w V → DiskR V ak aw d) := fun V hb => h.below hb
  have HE : Hid (∀ V, Below w.heap.size w V → DiskR V bk bw e) := fun V hb => h2.below hb
  clear h h2
  cases hE : entryOk i t c s k a b x y
  · have HEn := Lib.hid (keptEntryF_n (d := d) (e := e) hE)
    have HE0 := Lib.hid hE
    clear hE
    go_enter Try.func11, Try.ntmps11
    go_wp2_with fail
    refine restK_begin [9] (by kernel_rfl) ?_
    refine restK_take (v := ?_) 0 rfl (by kernel_rfl) (by kernel_rfl) (by kernel_rfl) (by kernel_rfl) (by kernel_rfl) (by kernel_rfl) (fun _ _ _ h => h) (by rfl) ?_ ?_
    rotate_left
    · intro w9 h9; try dsimp only at h9
      obtain ⟨x9, rfl⟩ := later_of h9
      go_simp; try with_reducible rfl
    try simp only [Act.put, List.setIfInBounds_toArray, List.set_cons_zero, List.set_cons_succ]
    refine restK_take (v := ?_) 1 rfl (by kernel_rfl) (by kernel_rfl) (by kernel_rfl) (by kernel_rfl) (by kernel_rfl) (by kernel_rfl) (fun _ _ _ h => h) (by rfl) ?_ ?_
    rotate_left
    · intro w9 h9; try dsimp only at h9
      obtain ⟨x9, rfl⟩ := later_of h9
      go_simp; try with_reducible rfl
    try simp only [Act.put, List.setIfInBounds_toArray, List.set_cons_zero, List.set_cons_succ]
    refine restK_take (v := ?_) 2 rfl (by kernel_rfl) (by kernel_rfl) (by kernel_rfl) (by kernel_rfl) (by kernel_rfl) (by kernel_rfl) (fun _ _ _ h => h) (by rfl) ?_ ?_
    rotate_left
    · intro w9 h9; try dsimp only at h9
      obtain ⟨x9, rfl⟩ := later_of h9
      go_simp; try with_reducible rfl
    try simp only [Act.put, List.setIfInBounds_toArray, List.set_cons_zero, List.set_cons_succ]
    refine restK_take (v := ?_) 4 rfl (by kernel_rfl) (by kernel_rfl) (by kernel_rfl) (by kernel_rfl) (by kernel_rfl) (by kernel_rfl) (fun _ _ _ h => h) (by rfl) ?_ ?_
    rotate_left
    · intro w9 h9; try dsimp only at h9
      obtain ⟨x9, rfl⟩ := later_of h9
      go_simp; try with_reducible rfl
    try simp only [Act.put, List.setIfInBounds_toArray, List.set_cons_zero, List.set_cons_succ]
    refine restK_alone 3 rfl (by kernel_rfl) (by rfl) (fun hS K hK => ?_)
    go_wp2_with fail
    refine (c_impl_SlotOf i _).mono ?_
    rintro e9 w9 ⟨rfl, rfl⟩
    refine hK.out _ _ (hS) ?_
    try simp only [Act.put, List.setIfInBounds_toArray, List.set_cons_zero, List.set_cons_succ]
    clear hK K hS
    refine restK_alone 5 rfl (by kernel_rfl) (by rfl) (fun hS K hK => ?_)
    go_wp2_with fail
    refine (c_impl_SlotRow_n i t c s k a b x y _ HE0.out).mono ?_
    rintro e5 w5 ⟨rfl, hb5⟩
    have hS5 := bl_step hb5 hS.size hS
    have hz5 := hb5.size
    simp only [World.size_drew, World.size_alloc] at hz5
    refine hK.out _ _ (hS5) ?_
    try simp only [Act.put, List.setIfInBounds_toArray, List.set_cons_zero, List.set_cons_succ]
    clear hK K hS
    clear hb5
    refine restK_alone 6 rfl (by kernel_rfl) (by rfl) (fun hS K hK => ?_)
    go_wp2_with fail
    refine (c_impl_keptRow_none ak aw bk bw ck cw dk dw d e (slotOf i) _ (HD.out _ (by (repeat (first | with_reducible exact Below.refl _ _ | ((with_reducible refine bl_alloc ?_ ?_); (focus (first | (simp; done) | (simp; omega) | omega))) | ((with_reducible refine bl_set ?_ ?_); (focus (first | (simp; done) | (simp; omega) | omega))) | ((with_reducible refine bl_later ?_ ?_); (focus (first | (simp; done) | (simp; omega) | omega))) | with_reducible refine bl_drew ?_ | with_reducible refine bl_drewN ?_ | ((with_reducible refine bl_step (by assumption) ?_ ?_); (focus (first | (simp; done) | (simp; omega) | omega))))))) (HE.out _ (by (repeat (first | with_reducible exact Below.refl _ _ | ((with_reducible refine bl_alloc ?_ ?_); (focus (first | (simp; done) | (simp; omega) | omega))) | ((with_reducible refine bl_set ?_ ?_); (focus (first | (simp; done) | (simp; omega) | omega))) | ((with_reducible refine bl_later ?_ ?_); (focus (first | (simp; done) | (simp; omega) | omega))) | with_reducible refine bl_drew ?_ | with_reducible refine bl_drewN ?_ | ((with_reducible refine bl_step (by assumption) ?_ ?_); (focus (first | (simp; done) | (simp; omega) | omega)))))))).mono ?_
    rintro e6 w6 ⟨b1, k1, b2, k2, b3, k3, b4, k4, rfl, hs6, hb6⟩
    have hS6 := bl_step hb6 hS.size hS
    have hz6 := hb6.size
    have Hs6 := Lib.hid hs6
    clear hs6
    refine hK.out _ _ (hS6) ?_
    try simp only [Act.put, List.setIfInBounds_toArray, List.set_cons_zero, List.set_cons_succ]
    clear hK K hS
    clear hb6
    refine restK_take (v := ?_) 7 rfl (by kernel_rfl) (by kernel_rfl) (by kernel_rfl) (by kernel_rfl) (by kernel_rfl) (by kernel_rfl) (fun _ _ _ h => h) (by rfl) ?_ ?_
    rotate_left
    · intro w9 h9; try dsimp only at h9
      obtain ⟨x9, rfl⟩ := later_of h9
      go_simp; try with_reducible rfl
    try simp only [Act.put, List.setIfInBounds_toArray, List.set_cons_zero, List.set_cons_succ]
    refine restK_take (v := ?_) 8 rfl (by kernel_rfl) (by kernel_rfl) (by kernel_rfl) (by kernel_rfl) (by kernel_rfl) (by kernel_rfl) (fun _ _ _ h => h) (by rfl) ?_ ?_
    rotate_left
    · intro w9 h9; try dsimp only at h9
      obtain ⟨x9, rfl⟩ := later_of h9
      go_simp; try with_reducible rfl
    try simp only [Act.put, List.setIfInBounds_toArray, List.set_cons_zero, List.set_cons_succ]
    refine restK_break 9 rfl (by kernel_rfl) (by rfl) (by kernel_rfl) (fun hS K hK => ?_)
    have hcr0 := fun (o : Nat) => hS.cell (p := ⟨w.heap.size + 1 + 1, o, none⟩) (by (first | (simp; done) | (simp; omega) | omega))
    have hfr0 := fun (o : Nat) => hS.frozen (p := ⟨w.heap.size + 1 + 1, o, none⟩) (by (first | (simp; done) | (simp; omega) | omega))
    have HBw : Hid (Below w.heap.size w w6) := by unfold Hid; (repeat (first | with_reducible exact Below.refl _ _ | ((with_reducible refine bl_alloc ?_ ?_); (focus (first | (simp; done) | (simp; omega) | omega))) | ((with_reducible refine bl_set ?_ ?_); (focus (first | (simp; done) | (simp; omega) | omega))) | ((with_reducible refine bl_later ?_ ?_); (focus (first | (simp; done) | (simp; omega) | omega))) | with_reducible refine bl_drew ?_ | with_reducible refine bl_drewN ?_ | ((with_reducible refine bl_step (by assumption) ?_ ?_); (focus (first | (simp; done) | (simp; omega) | omega)))))
    go_wp2_with fail
    refine hK.out _ _ trivial ?_
    try simp only [Act.put, List.setIfInBounds_toArray, List.set_cons_zero, List.set_cons_succ]
    clear hK K hS
    refine rest_take (v := ?_) 10 rfl (by kernel_rfl) (by kernel_rfl) (by kernel_rfl) (fun _ _ _ h => h) (by rfl) ?_ ?_
    rotate_left
    · intro w9; go_simp; try with_reducible rfl
    try simp only [Act.put, List.setIfInBounds_toArray, List.set_cons_zero, List.set_cons_succ]
    refine rest_done (by kernel_rfl) ?_
    go_wp2_with fail
    have hBw := HBw.out
    refine bodyPost_ret (v := .tuple #[.agg #[.slice b1 (keptRowF d e (slotOf i) none).1.1.1.length k1, .slice b2 (keptRowF d e (slotOf i) none).1.1.2.length k2, .slice b3 (keptRowF d e (slotOf i) none).1.2.1.length k3, .slice b4 (keptRowF d e (slotOf i) none).1.2.2.length k4], .bool (keptRowF d e (slotOf i) none).2]) (by simp [results, Try.results11, go_sem, *]) rfl ⟨b1, k1, b2, k2, b3, k3, b4, k4, ?_, ?_, ?_⟩
    · rw [HEn.out]
    · rw [HEn.out]
      exact (Hs6.out.kp (by clear hBw; (repeat (first | with_reducible exact kp_refl | ((with_reducible refine kp_alloc ?_ ?_); (focus (first | (simp; done) | (simp; omega) | omega))) | ((with_reducible refine kp_set ?_ ?_); (focus (first | (simp; done) | (simp; omega) | omega))) | with_reducible refine kp_drew ?_ | with_reducible refine kp_drewN ?_ | ((with_reducible refine kp_step (by assumption) ?_ ?_); (focus (first | (simp; done) | (simp; omega) | omega))))))).wide (by have := hBw.size; omega) (by (first | (simp; done) | (simp; omega) | omega))
    · (repeat (first | with_reducible exact Below.refl _ _ | ((with_reducible refine bl_alloc ?_ ?_); (focus (first | (simp; done) | (simp; omega) | omega))) | ((with_reducible refine bl_set ?_ ?_); (focus (first | (simp; done) | (simp; omega) | omega))) | ((with_reducible refine bl_later ?_ ?_); (focus (first | (simp; done) | (simp; omega) | omega))) | with_reducible refine bl_drew ?_ | with_reducible refine bl_drewN ?_ | ((with_reducible refine bl_step (by assumption) ?_ ?_); (focus (first | (simp; done) | (simp; omega) | omega)))))
  · have HEn := Lib.hid (keptEntryF_y (d := d) (e := e) hE)
    have HE0 := Lib.hid hE
    clear hE
    go_enter Try.func11, Try.ntmps11
    go_wp2_with fail
    refine restK_begin [9] (by kernel_rfl) ?_
    refine restK_take (v := ?_) 0 rfl (by kernel_rfl) (by kernel_rfl) (by kernel_rfl) (by kernel_rfl) (by kernel_rfl) (by kernel_rfl) (fun _ _ _ h => h) (by rfl) ?_ ?_
    rotate_left
    · intro w9 h9; try dsimp only at h9
      obtain ⟨x9, rfl⟩ := later_of h9
      go_simp; try with_reducible rfl
    try simp only [Act.put, List.setIfInBounds_toArray, List.set_cons_zero, List.set_cons_succ]
    refine restK_take (v := ?_) 1 rfl (by kernel_rfl) (by kernel_rfl) (by kernel_rfl) (by kernel_rfl) (by kernel_rfl) (by kernel_rfl) (fun _ _ _ h => h) (by rfl) ?_ ?_
    rotate_left
    · intro w9 h9; try dsimp only at h9
      obtain ⟨x9, rfl⟩ := later_of h9
      go_simp; try with_reducible rfl
    try simp only [Act.put, List.setIfInBounds_toArray, List.set_cons_zero, List.set_cons_succ]
    refine restK_take (v := ?_) 2 rfl (by kernel_rfl) (by kernel_rfl) (by kernel_rfl) (by kernel_rfl) (by kernel_rfl) (by kernel_rfl) (fun _ _ _ h => h) (by rfl) ?_ ?_
    rotate_left
    · intro w9 h9; try dsimp only at h9
      obtain ⟨x9, rfl⟩ := later_of h9
      go_simp; try with_reducible rfl
    try simp only [Act.put, List.setIfInBounds_toArray, List.set_cons_zero, List.set_cons_succ]
    refine restK_take (v := ?_) 4 rfl (by kernel_rfl) (by kernel_rfl) (by kernel_rfl) (by kernel_rfl) (by kernel_rfl) (by kernel_rfl) (fun _ _ _ h => h) (by rfl) ?_ ?_
    rotate_left
    · intro w9 h9; try dsimp only at h9
      obtain ⟨x9, rfl⟩ := later_of h9
      go_simp; try with_reducible rfl
    try simp only [Act.put, List.setIfInBounds_toArray, List.set_cons_zero, List.set_cons_succ]
    refine restK_alone 3 rfl (by kernel_rfl) (by rfl) (fun hS K hK => ?_)
    go_wp2_with fail
    refine (c_impl_SlotOf i _).mono ?_
    rintro e9 w9 ⟨rfl, rfl⟩
    refine hK.out _ _ (hS) ?_
    try simp only [Act.put, List.setIfInBounds_toArray, List.set_cons_zero, List.set_cons_succ]
    clear hK K hS
    refine restK_alone 5 rfl (by kernel_rfl) (by rfl) (fun hS K hK => ?_)
    go_wp2_with fail
    refine (c_impl_SlotRow_y i t c s k a b x y _ yi yt yc ys yk ya yb yx yy HE0.out).mono ?_
    rintro e5 w5 ⟨a5, c5, rfl, ho5, hb5⟩
    have hS5 := bl_step hb5 hS.size hS
    have hz5 := hb5.size
    simp only [World.size_drew, World.size_alloc] at hz5 ho5
    obtain ⟨g5, rfl⟩ := ints_some ho5 (by simp)
    have Ho5 := Lib.hid ho5
    clear ho5
    refine hK.out _ _ (hS5) ?_
    try simp only [Act.put, List.setIfInBounds_toArray, List.set_cons_zero, List.set_cons_succ]
    clear hK K hS
    clear hb5
    refine restK_alone 6 rfl (by kernel_rfl) (by rfl) (fun hS K hK => ?_)
    go_wp2_with fail
    refine (c_impl_keptRow_some ak aw bk bw ck cw dk dw d e (slotOf i) ⟨g5, 0, none⟩ c5 [i, t, c, s, k, a, b, x, y, i, i] _ (HD.out _ (by (repeat (first | with_reducible exact Below.refl _ _ | ((with_reducible refine bl_alloc ?_ ?_); (focus (first | (simp; done) | (simp; omega) | omega))) | ((with_reducible refine bl_set ?_ ?_); (focus (first | (simp; done) | (simp; omega) | omega))) | ((with_reducible refine bl_later ?_ ?_); (focus (first | (simp; done) | (simp; omega) | omega))) | with_reducible refine bl_drew ?_ | with_reducible refine bl_drewN ?_ | ((with_reducible refine bl_step (by assumption) ?_ ?_); (focus (first | (simp; done) | (simp; omega) | omega))))))) (HE.out _ (by (repeat (first | with_reducible exact Below.refl _ _ | ((with_reducible refine bl_alloc ?_ ?_); (focus (first | (simp; done) | (simp; omega) | omega))) | ((with_reducible refine bl_set ?_ ?_); (focus (first | (simp; done) | (simp; omega) | omega))) | ((with_reducible refine bl_later ?_ ?_); (focus (first | (simp; done) | (simp; omega) | omega))) | with_reducible refine bl_drew ?_ | with_reducible refine bl_drewN ?_ | ((with_reducible refine bl_step (by assumption) ?_ ?_); (focus (first | (simp; done) | (simp; omega) | omega))))))) Ho5.out.read).mono ?_
    rintro e6 w6 ⟨b1, k1, b2, k2, b3, k3, b4, k4, rfl, hs6, hb6⟩
    have hS6 := bl_step hb6 hS.size hS
    have hz6 := hb6.size
    have Hs6 := Lib.hid hs6
    clear hs6
    refine hK.out _ _ (hS6) ?_
    try simp only [Act.put, List.setIfInBounds_toArray, List.set_cons_zero, List.set_cons_succ]
    clear hK K hS
    clear hb6
    refine restK_take (v := ?_) 7 rfl (by kernel_rfl) (by kernel_rfl) (by kernel_rfl) (by kernel_rfl) (by kernel_rfl) (by kernel_rfl) (fun _ _ _ h => h) (by rfl) ?_ ?_
    rotate_left
    · intro w9 h9; try dsimp only at h9
      obtain ⟨x9, rfl⟩ := later_of h9
      go_simp; try with_reducible rfl
    try simp only [Act.put, List.setIfInBounds_toArray, List.set_cons_zero, List.set_cons_succ]
    refine restK_take (v := ?_) 8 rfl (by kernel_rfl) (by kernel_rfl) (by kernel_rfl) (by kernel_rfl) (by kernel_rfl) (by kernel_rfl) (fun _ _ _ h => h) (by rfl) ?_ ?_
    rotate_left
    · intro w9 h9; try dsimp only at h9
      obtain ⟨x9, rfl⟩ := later_of h9
      go_simp; try with_reducible rfl
    try simp only [Act.put, List.setIfInBounds_toArray, List.set_cons_zero, List.set_cons_succ]
    refine restK_break 9 rfl (by kernel_rfl) (by rfl) (by kernel_rfl) (fun hS K hK => ?_)
    have hcr0 := fun (o : Nat) => hS.cell (p := ⟨w.heap.size + 1 + 1, o, none⟩) (by (first | (simp; done) | (simp; omega) | omega))
    have hfr0 := fun (o : Nat) => hS.frozen (p := ⟨w.heap.size + 1 + 1, o, none⟩) (by (first | (simp; done) | (simp; omega) | omega))
    have HBw : Hid (Below w.heap.size w w6) := by unfold Hid; (repeat (first | with_reducible exact Below.refl _ _ | ((with_reducible refine bl_alloc ?_ ?_); (focus (first | (simp; done) | (simp; omega) | omega))) | ((with_reducible refine bl_set ?_ ?_); (focus (first | (simp; done) | (simp; omega) | omega))) | ((with_reducible refine bl_later ?_ ?_); (focus (first | (simp; done) | (simp; omega) | omega))) | with_reducible refine bl_drew ?_ | with_reducible refine bl_drewN ?_ | ((with_reducible refine bl_step (by assumption) ?_ ?_); (focus (first | (simp; done) | (simp; omega) | omega)))))
    go_wp2_with fail
    refine hK.out _ _ trivial ?_
    try simp only [Act.put, List.setIfInBounds_toArray, List.set_cons_zero, List.set_cons_succ]
    clear hK K hS
    refine rest_take (v := ?_) 10 rfl (by kernel_rfl) (by kernel_rfl) (by kernel_rfl) (fun _ _ _ h => h) (by rfl) ?_ ?_
    rotate_left
    · intro w9; go_simp; try with_reducible rfl
    try simp only [Act.put, List.setIfInBounds_toArray, List.set_cons_zero, List.set_cons_succ]
    refine rest_done (by kernel_rfl) ?_
    go_wp2_with fail
    have hBw := HBw.out
    refine bodyPost_ret (v := .tuple #[.agg #[.slice b1 (keptRowF d e (slotOf i) (some [i, t, c, s, k, a, b, x, y, i, i])).1.1.1.length k1, .slice b2 (keptRowF d e (slotOf i) (some [i, t, c, s, k, a, b, x, y, i, i])).1.1.2.length k2, .slice b3 (keptRowF d e (slotOf i) (some [i, t, c, s, k, a, b, x, y, i, i])).1.2.1.length k3, .slice b4 (keptRowF d e (slotOf i) (some [i, t, c, s, k, a, b, x, y, i, i])).1.2.2.length k4], .bool (keptRowF d e (slotOf i) (some [i, t, c, s, k, a, b, x, y, i, i])).2]) (by simp [results, Try.results11, go_sem, *]) rfl ⟨b1, k1, b2, k2, b3, k3, b4, k4, ?_, ?_, ?_⟩
    · rw [HEn.out]
    · rw [HEn.out]
      exact (Hs6.out.kp (by clear hBw; (repeat (first | with_reducible exact kp_refl | ((with_reducible refine kp_alloc ?_ ?_); (focus (first | (simp; done) | (simp; omega) | omega))) | ((with_reducible refine kp_set ?_ ?_); (focus (first | (simp; done) | (simp; omega) | omega))) | with_reducible refine kp_drew ?_ | with_reducible refine kp_drewN ?_ | ((with_reducible refine kp_step (by assumption) ?_ ?_); (focus (first | (simp; done) | (simp; omega) | omega))))))).wide (by have := hBw.size; omega) (by (first | (simp; done) | (simp; omega) | omega))
    · (repeat (first | with_reducible exact Below.refl _ _ | ((with_reducible refine bl_alloc ?_ ?_); (focus (first | (simp; done) | (simp; omega) | omega))) | ((with_reducible refine bl_set ?_ ?_); (focus (first | (simp; done) | (simp; omega) | omega))) | ((with_reducible refine bl_later ?_ ?_); (focus (first | (simp; done) | (simp; omega) | omega))) | with_reducible refine bl_drew ?_ | with_reducible refine bl_drewN ?_ | ((with_reducible refine bl_step (by assumption) ?_ ?_); (focus (first | (simp; done) | (simp; omega) | omega)))))
theorem c_spec_KeptEntry (ak aw bk bw : Option Addr) (ck cw dk dw : Nat) (d e : DiskT) (i t c s k a b x y : Int) (w : World) (h : DiskR w ak aw d) (h2 : DiskR w bk bw e) (yi : inI64 i) (yt : inI64 t) (yc : inI64 c) (ys : inI64 s) (yk : inI64 k) (ya : inI64 a) (yb : inI64 b) (yx : inI64 x) (yy : inI64 y) :
    Calls Try.prog 8 #[.agg #[.slice ak d.1.length ck, .slice aw d.2.length cw, .slice bk e.1.length dk, .slice bw e.2.length dw], .agg #[.int .i64 i, .int .i64 t, .int .i64 c, .int .i64 s, .int .i64 k, .int .i64 a, .int .i64 b, .int .i64 x, .int .i64 y]] w (RetTwo w (keptEntryF d e i t c s k a b x y)) := by
  have HD : Hid (∀ V, Below w.heap.size w V → DiskR V ak aw d) := fun V hb => h.below hb
  have HE : Hid (∀ V, Below w.heap.size w V → DiskR V bk bw e) := fun V hb => h2.below hb
  clear h h2
  cases hK : keptOk d e
  · have HK := Lib.hid hK
    clear hK
    go_enter Try.func8, Try.ntmps8
    go_wp2_with fail
    refine (c_spec_KeptOk ak aw bk bw ck cw dk dw d e _ (HD.out _ (by (repeat (first | with_reducible exact Below.refl _ _ | ((with_reducible refine bl_alloc ?_ ?_); (focus (first | (simp; done) | (simp; omega) | omega))) | ((with_reducible refine bl_set ?_ ?_); (focus (first | (simp; done) | (simp; omega) | omega))) | ((with_reducible refine bl_later ?_ ?_); (focus (first | (simp; done) | (simp; omega) | omega))) | with_reducible refine bl_drew ?_ | with_reducible refine bl_drewN ?_ | ((with_reducible refine bl_step (by assumption) ?_ ?_); (focus (first | (simp; done) | (simp; omega) | omega))))))) (HE.out _ (by (repeat (first | with_reducible exact Below.refl _ _ | ((with_reducible refine bl_alloc ?_ ?_); (focus (first | (simp; done) | (simp; omega) | omega))) | ((with_reducible refine bl_set ?_ ?_); (focus (first | (simp; done) | (simp; omega) | omega))) | ((with_reducible refine bl_later ?_ ?_); (focus (first | (simp; done) | (simp; omega) | omega))) | with_reducible refine bl_drew ?_ | with_reducible refine bl_drewN ?_ | ((with_reducible refine bl_step (by assumption) ?_ ?_); (focus (first | (simp; done) | (simp; omega) | omega)))))))).mono ?_
    rw [HK.out]
    rintro en w2 ⟨rfl, hb2⟩
    have hz2 := hb2.size
    simp only [World.size_alloc] at hz2
    have hca0 := fun (o : Nat) => hb2.cell (p := ⟨w.heap.size, o, none⟩) (by (first | (simp; done) | (simp; omega) | omega))
    have hfa0 := fun (o : Nat) => hb2.frozen (p := ⟨w.heap.size, o, none⟩) (by (first | (simp; done) | (simp; omega) | omega))
    have hca1 := fun (o : Nat) => hb2.cell (p := ⟨w.heap.size + 1, o, none⟩) (by (first | (simp; done) | (simp; omega) | omega))
    have hfa1 := fun (o : Nat) => hb2.frozen (p := ⟨w.heap.size + 1, o, none⟩) (by (first | (simp; done) | (simp; omega) | omega))
    have hca2 := fun (o : Nat) => hb2.cell (p := ⟨w.heap.size + 1 + 1, o, none⟩) (by (first | (simp; done) | (simp; omega) | omega))
    have hfa2 := fun (o : Nat) => hb2.frozen (p := ⟨w.heap.size + 1 + 1, o, none⟩) (by (first | (simp; done) | (simp; omega) | omega))
    have hla0 : w.heap.size < w2.heap.size := by omega
    have hla1 : w.heap.size + 1 < w2.heap.size := by omega
    have hla2 : w.heap.size + 1 + 1 < w2.heap.size := by omega
    go_wp2_with fail
    refine bodyPost_ret (v := .tuple #[.agg #[.slice none 0 0, .slice none 0 0, .slice none 0 0, .slice none 0 0], .bool false]) (by simp [results, Try.results8, go_sem, *]) rfl ⟨none, 0, none, 0, none, 0, none, 0, ?_, ?_, ?_⟩
    · rw [show keptEntryF d e i t c s k a b x y = _ from keptRowF_z _ HK.out]; rfl
    · rw [show keptEntryF d e i t c s k a b x y = _ from keptRowF_z _ HK.out]
      exact sp_zero _ _ _
    · (repeat (first | with_reducible exact Below.refl _ _ | ((with_reducible refine bl_alloc ?_ ?_); (focus (first | (simp; done) | (simp; omega) | omega))) | ((with_reducible refine bl_set ?_ ?_); (focus (first | (simp; done) | (simp; omega) | omega))) | ((with_reducible refine bl_later ?_ ?_); (focus (first | (simp; done) | (simp; omega) | omega))) | with_reducible refine bl_drew ?_ | with_reducible refine bl_drewN ?_ | ((with_reducible refine bl_step (by assumption) ?_ ?_); (focus (first | (simp; done) | (simp; omega) | omega)))))
  · have HK := Lib.hid hK
    have HT := Lib.hid (keptOk_t hK)
    have HO1 := Lib.hid (twoOk_1 HT.out).1
    have HO2 := Lib.hid (twoOk_1 HT.out).2
    clear hK
    cases hE : entryOk i t c s k a b x y
    · have HE0 := Lib.hid hE
      clear hE
      go_enter Try.func8, Try.ntmps8
      go_wp2_with fail
      refine (c_spec_KeptOk ak aw bk bw ck cw dk dw d e _ (HD.out _ (by (repeat (first | with_reducible exact Below.refl _ _ | ((with_reducible refine bl_alloc ?_ ?_); (focus (first | (simp; done) | (simp; omega) | omega))) | ((with_reducible refine bl_set ?_ ?_); (focus (first | (simp; done) | (simp; omega) | omega))) | ((with_reducible refine bl_later ?_ ?_); (focus (first | (simp; done) | (simp; omega) | omega))) | with_reducible refine bl_drew ?_ | with_reducible refine bl_drewN ?_ | ((with_reducible refine bl_step (by assumption) ?_ ?_); (focus (first | (simp; done) | (simp; omega) | omega))))))) (HE.out _ (by (repeat (first | with_reducible exact Below.refl _ _ | ((with_reducible refine bl_alloc ?_ ?_); (focus (first | (simp; done) | (simp; omega) | omega))) | ((with_reducible refine bl_set ?_ ?_); (focus (first | (simp; done) | (simp; omega) | omega))) | ((with_reducible refine bl_later ?_ ?_); (focus (first | (simp; done) | (simp; omega) | omega))) | with_reducible refine bl_drew ?_ | with_reducible refine bl_drewN ?_ | ((with_reducible refine bl_step (by assumption) ?_ ?_); (focus (first | (simp; done) | (simp; omega) | omega)))))))).mono ?_
      rw [HK.out]
      rintro en w2 ⟨rfl, hb2⟩
      have hz2 := hb2.size
      simp only [World.size_alloc] at hz2
      have hca0 := fun (o : Nat) => hb2.cell (p := ⟨w.heap.size, o, none⟩) (by (first | (simp; done) | (simp; omega) | omega))
      have hfa0 := fun (o : Nat) => hb2.frozen (p := ⟨w.heap.size, o, none⟩) (by (first | (simp; done) | (simp; omega) | omega))
      have hca1 := fun (o : Nat) => hb2.cell (p := ⟨w.heap.size + 1, o, none⟩) (by (first | (simp; done) | (simp; omega) | omega))
      have hfa1 := fun (o : Nat) => hb2.frozen (p := ⟨w.heap.size + 1, o, none⟩) (by (first | (simp; done) | (simp; omega) | omega))
      have hca2 := fun (o : Nat) => hb2.cell (p := ⟨w.heap.size + 1 + 1, o, none⟩) (by (first | (simp; done) | (simp; omega) | omega))
      have hfa2 := fun (o : Nat) => hb2.frozen (p := ⟨w.heap.size + 1 + 1, o, none⟩) (by (first | (simp; done) | (simp; omega) | omega))
      have hla0 : w.heap.size < w2.heap.size := by omega
      have hla1 : w.heap.size + 1 < w2.heap.size := by omega
      have hla2 : w.heap.size + 1 + 1 < w2.heap.size := by omega
      go_wp2_with fail
      refine (c_spec_EntryOk i t c s k a b x y _).mono ?_
      rw [HE0.out]
      rintro en w3 ⟨rfl, hb3⟩
      have hz3 := hb3.size
      have hcb0 := fun (o : Nat) => hb3.cell (p := ⟨w.heap.size, o, none⟩) (by (first | (simp; done) | (simp; omega) | omega))
      have hfb0 := fun (o : Nat) => hb3.frozen (p := ⟨w.heap.size, o, none⟩) (by (first | (simp; done) | (simp; omega) | omega))
      have hcb1 := fun (o : Nat) => hb3.cell (p := ⟨w.heap.size + 1, o, none⟩) (by (first | (simp; done) | (simp; omega) | omega))
      have hfb1 := fun (o : Nat) => hb3.frozen (p := ⟨w.heap.size + 1, o, none⟩) (by (first | (simp; done) | (simp; omega) | omega))
      have hcb2 := fun (o : Nat) => hb3.cell (p := ⟨w.heap.size + 1 + 1, o, none⟩) (by (first | (simp; done) | (simp; omega) | omega))
      have hfb2 := fun (o : Nat) => hb3.frozen (p := ⟨w.heap.size + 1 + 1, o, none⟩) (by (first | (simp; done) | (simp; omega) | omega))
      have hlb0 : w.heap.size < w3.heap.size := by omega
      have hlb1 : w.heap.size + 1 < w3.heap.size := by omega
      have hlb2 : w.heap.size + 1 + 1 < w3.heap.size := by omega
      go_wp2_with fail
      refine (c_spec_l4Copy ak aw bk bw ck cw dk dw d e _ (HD.out _ (by (repeat (first | with_reducible exact Below.refl _ _ | ((with_reducible refine bl_alloc ?_ ?_); (focus (first | (simp; done) | (simp; omega) | omega))) | ((with_reducible refine bl_set ?_ ?_); (focus (first | (simp; done) | (simp; omega) | omega))) | ((with_reducible refine bl_later ?_ ?_); (focus (first | (simp; done) | (simp; omega) | omega))) | with_reducible refine bl_drew ?_ | with_reducible refine bl_drewN ?_ | ((with_reducible refine bl_step (by assumption) ?_ ?_); (focus (first | (simp; done) | (simp; omega) | omega))))))) (HE.out _ (by (repeat (first | with_reducible exact Below.refl _ _ | ((with_reducible refine bl_alloc ?_ ?_); (focus (first | (simp; done) | (simp; omega) | omega))) | ((with_reducible refine bl_set ?_ ?_); (focus (first | (simp; done) | (simp; omega) | omega))) | ((with_reducible refine bl_later ?_ ?_); (focus (first | (simp; done) | (simp; omega) | omega))) | with_reducible refine bl_drew ?_ | with_reducible refine bl_drewN ?_ | ((with_reducible refine bl_step (by assumption) ?_ ?_); (focus (first | (simp; done) | (simp; omega) | omega))))))) (diskOk_B HO1.out) (diskOk_B HO2.out)).mono ?_
      rintro en w9 ⟨b1, k1, b2, k2, b3, k3, b4, k4, rfl, hs9, hb9⟩
      have hz9 := hb9.size
      have Hs9 := Lib.hid hs9
      clear hs9
      have hcz0 := fun (o : Nat) => hb9.cell (p := ⟨w.heap.size + 1 + 1, o, none⟩) (by (first | (simp; done) | (simp; omega) | omega))
      have hfz0 := fun (o : Nat) => hb9.frozen (p := ⟨w.heap.size + 1 + 1, o, none⟩) (by (first | (simp; done) | (simp; omega) | omega))
      have hlz0 : w.heap.size < w9.heap.size := by omega
      have hlz1 : w.heap.size + 1 < w9.heap.size := by omega
      have hlz2 : w.heap.size + 1 + 1 < w9.heap.size := by omega
      go_wp2_with fail
      refine bodyPost_ret (v := .tuple #[.agg #[.slice b1 d.1.length k1, .slice b2 d.2.length k2, .slice b3 e.1.length k3, .slice b4 e.2.length k4], .bool false]) (by simp [results, Try.results8, go_sem, *]) rfl ⟨b1, k1, b2, k2, b3, k3, b4, k4, ?_, ?_, ?_⟩
      · rw [keptEntryF_n HE0.out, keptRowF_none HK.out]
      · rw [keptEntryF_n HE0.out, keptRowF_none HK.out]
        exact (Hs9.out.kp (by (repeat (first | with_reducible exact kp_refl | ((with_reducible refine kp_alloc ?_ ?_); (focus (first | (simp; done) | (simp; omega) | omega))) | ((with_reducible refine kp_set ?_ ?_); (focus (first | (simp; done) | (simp; omega) | omega))) | with_reducible refine kp_drew ?_ | with_reducible refine kp_drewN ?_ | ((with_reducible refine kp_step (by assumption) ?_ ?_); (focus (first | (simp; done) | (simp; omega) | omega))))))).wide (by omega) (by (first | (simp; done) | (simp; omega) | omega))
      · (repeat (first | with_reducible exact Below.refl _ _ | ((with_reducible refine bl_alloc ?_ ?_); (focus (first | (simp; done) | (simp; omega) | omega))) | ((with_reducible refine bl_set ?_ ?_); (focus (first | (simp; done) | (simp; omega) | omega))) | ((with_reducible refine bl_later ?_ ?_); (focus (first | (simp; done) | (simp; omega) | omega))) | with_reducible refine bl_drew ?_ | with_reducible refine bl_drewN ?_ | ((with_reducible refine bl_step (by assumption) ?_ ?_); (focus (first | (simp; done) | (simp; omega) | omega)))))
    · have HEn : Hid (keptEntryF d e i t c s k a b x y = (bothWroteF d e (slotOf i) [i, t, c, s, k, a, b, x, y, i, i])) := by rw [Hid, keptEntryF_y hE, keptRowF_some HK.out]
      have HE0 := Lib.hid hE
      clear hE
      go_enter Try.func8, Try.ntmps8
      go_wp2_with fail
      refine (c_spec_KeptOk ak aw bk bw ck cw dk dw d e _ (HD.out _ (by (repeat (first | with_reducible exact Below.refl _ _ | ((with_reducible refine bl_alloc ?_ ?_); (focus (first | (simp; done) | (simp; omega) | omega))) | ((with_reducible refine bl_set ?_ ?_); (focus (first | (simp; done) | (simp; omega) | omega))) | ((with_reducible refine bl_later ?_ ?_); (focus (first | (simp; done) | (simp; omega) | omega))) | with_reducible refine bl_drew ?_ | with_reducible refine bl_drewN ?_ | ((with_reducible refine bl_step (by assumption) ?_ ?_); (focus (first | (simp; done) | (simp; omega) | omega))))))) (HE.out _ (by (repeat (first | with_reducible exact Below.refl _ _ | ((with_reducible refine bl_alloc ?_ ?_); (focus (first | (simp; done) | (simp; omega) | omega))) | ((with_reducible refine bl_set ?_ ?_); (focus (first | (simp; done) | (simp; omega) | omega))) | ((with_reducible refine bl_later ?_ ?_); (focus (first | (simp; done) | (simp; omega) | omega))) | with_reducible refine bl_drew ?_ | with_reducible refine bl_drewN ?_ | ((with_reducible refine bl_step (by assumption) ?_ ?_); (focus (first | (simp; done) | (simp; omega) | omega)))))))).mono ?_
      rw [HK.out]
      rintro en w2 ⟨rfl, hb2⟩
      have hz2 := hb2.size
      simp only [World.size_alloc] at hz2
      have hca0 := fun (o : Nat) => hb2.cell (p := ⟨w.heap.size, o, none⟩) (by (first | (simp; done) | (simp; omega) | omega))
      have hfa0 := fun (o : Nat) => hb2.frozen (p := ⟨w.heap.size, o, none⟩) (by (first | (simp; done) | (simp; omega) | omega))
      have hca1 := fun (o : Nat) => hb2.cell (p := ⟨w.heap.size + 1, o, none⟩) (by (first | (simp; done) | (simp; omega) | omega))
      have hfa1 := fun (o : Nat) => hb2.frozen (p := ⟨w.heap.size + 1, o, none⟩) (by (first | (simp; done) | (simp; omega) | omega))
      have hca2 := fun (o : Nat) => hb2.cell (p := ⟨w.heap.size + 1 + 1, o, none⟩) (by (first | (simp; done) | (simp; omega) | omega))
      have hfa2 := fun (o : Nat) => hb2.frozen (p := ⟨w.heap.size + 1 + 1, o, none⟩) (by (first | (simp; done) | (simp; omega) | omega))
      have hla0 : w.heap.size < w2.heap.size := by omega
      have hla1 : w.heap.size + 1 < w2.heap.size := by omega
      have hla2 : w.heap.size + 1 + 1 < w2.heap.size := by omega
      go_wp2_with fail
      refine (c_spec_EntryOk i t c s k a b x y _).mono ?_
      rw [HE0.out]
      rintro en w3 ⟨rfl, hb3⟩
      have hz3 := hb3.size
      have hcb0 := fun (o : Nat) => hb3.cell (p := ⟨w.heap.size, o, none⟩) (by (first | (simp; done) | (simp; omega) | omega))
      have hfb0 := fun (o : Nat) => hb3.frozen (p := ⟨w.heap.size, o, none⟩) (by (first | (simp; done) | (simp; omega) | omega))
      have hcb1 := fun (o : Nat) => hb3.cell (p := ⟨w.heap.size + 1, o, none⟩) (by (first | (simp; done) | (simp; omega) | omega))
      have hfb1 := fun (o : Nat) => hb3.frozen (p := ⟨w.heap.size + 1, o, none⟩) (by (first | (simp; done) | (simp; omega) | omega))
      have hcb2 := fun (o : Nat) => hb3.cell (p := ⟨w.heap.size + 1 + 1, o, none⟩) (by (first | (simp; done) | (simp; omega) | omega))
      have hfb2 := fun (o : Nat) => hb3.frozen (p := ⟨w.heap.size + 1 + 1, o, none⟩) (by (first | (simp; done) | (simp; omega) | omega))
      have hlb0 : w.heap.size < w3.heap.size := by omega
      have hlb1 : w.heap.size + 1 < w3.heap.size := by omega
      have hlb2 : w.heap.size + 1 + 1 < w3.heap.size := by omega
      go_wp2_with fail
      refine restK_begin [9] (by kernel_rfl) ?_
      refine restK_take (v := ?_) 0 rfl (by kernel_rfl) (by kernel_rfl) (by kernel_rfl) (by kernel_rfl) (by kernel_rfl) (by kernel_rfl) (fun _ _ _ h => h) (by rfl) ?_ ?_
      rotate_left
      · intro w9 h9; try dsimp only at h9
        obtain ⟨x9, rfl⟩ := later_of h9
        go_simp; try with_reducible rfl
      try simp only [Act.put, List.setIfInBounds_toArray, List.set_cons_zero, List.set_cons_succ]
      refine restK_take (v := ?_) 1 rfl (by kernel_rfl) (by kernel_rfl) (by kernel_rfl) (by kernel_rfl) (by kernel_rfl) (by kernel_rfl) (fun _ _ _ h => h) (by rfl) ?_ ?_
      rotate_left
      · intro w9 h9; try dsimp only at h9
        obtain ⟨x9, rfl⟩ := later_of h9
        go_simp; try with_reducible rfl
      try simp only [Act.put, List.setIfInBounds_toArray, List.set_cons_zero, List.set_cons_succ]
      refine restK_take (v := ?_) 2 rfl (by kernel_rfl) (by kernel_rfl) (by kernel_rfl) (by kernel_rfl) (by kernel_rfl) (by kernel_rfl) (fun _ _ _ h => h) (by rfl) ?_ ?_
      rotate_left
      · intro w9 h9; try dsimp only at h9
        obtain ⟨x9, rfl⟩ := later_of h9
        go_simp; try with_reducible rfl
      try simp only [Act.put, List.setIfInBounds_toArray, List.set_cons_zero, List.set_cons_succ]
      refine restK_take (v := ?_) 4 rfl (by kernel_rfl) (by kernel_rfl) (by kernel_rfl) (by kernel_rfl) (by kernel_rfl) (by kernel_rfl) (fun _ _ _ h => h) (by rfl) ?_ ?_
      rotate_left
      · intro w9 h9; try dsimp only at h9
        obtain ⟨x9, rfl⟩ := later_of h9
        go_simp; try with_reducible rfl
      try simp only [Act.put, List.setIfInBounds_toArray, List.set_cons_zero, List.set_cons_succ]
      refine restK_alone 3 rfl (by kernel_rfl) (by rfl) (fun hS K hK => ?_)
      go_wp2_with fail
      refine (c_spec_SlotOf i _).mono ?_
      rintro e9 w9 ⟨rfl, rfl⟩
      refine hK.out _ _ (hS) ?_
      try simp only [Act.put, List.setIfInBounds_toArray, List.set_cons_zero, List.set_cons_succ]
      clear hK K hS
      refine restK_alone 5 rfl (by kernel_rfl) (by rfl) (fun hS K hK => ?_)
      go_wp2_with fail
      refine (c_spec_SlotRow_y i t c s k a b x y _ yi yt yc ys yk ya yb yx yy HE0.out).mono ?_
      rintro e5 w5 ⟨a5, c5, rfl, ho5, hb5⟩
      have hS5 := bl_step hb5 hS.size hS
      have hz5 := hb5.size
      simp only [World.size_drew] at hz5 ho5
      have Ho5 := Lib.hid ho5
      clear ho5
      refine hK.out _ _ (hS5) ?_
      try simp only [Act.put, List.setIfInBounds_toArray, List.set_cons_zero, List.set_cons_succ]
      clear hK K hS
      clear hb5
      refine restK_alone 6 rfl (by kernel_rfl) (by rfl) (fun hS K hK => ?_)
      go_wp2_with fail
      refine (c_spec_BothWrote ak aw bk bw ck cw dk dw d e (slotOf i) a5 c5 [i, t, c, s, k, a, b, x, y, i, i] _ (HD.out _ (by (repeat (first | with_reducible exact Below.refl _ _ | ((with_reducible refine bl_alloc ?_ ?_); (focus (first | (simp; done) | (simp; omega) | omega))) | ((with_reducible refine bl_set ?_ ?_); (focus (first | (simp; done) | (simp; omega) | omega))) | ((with_reducible refine bl_later ?_ ?_); (focus (first | (simp; done) | (simp; omega) | omega))) | with_reducible refine bl_drew ?_ | with_reducible refine bl_drewN ?_ | ((with_reducible refine bl_step (by assumption) ?_ ?_); (focus (first | (simp; done) | (simp; omega) | omega))))))) (HE.out _ (by (repeat (first | with_reducible exact Below.refl _ _ | ((with_reducible refine bl_alloc ?_ ?_); (focus (first | (simp; done) | (simp; omega) | omega))) | ((with_reducible refine bl_set ?_ ?_); (focus (first | (simp; done) | (simp; omega) | omega))) | ((with_reducible refine bl_later ?_ ?_); (focus (first | (simp; done) | (simp; omega) | omega))) | with_reducible refine bl_drew ?_ | with_reducible refine bl_drewN ?_ | ((with_reducible refine bl_step (by assumption) ?_ ?_); (focus (first | (simp; done) | (simp; omega) | omega))))))) Ho5.out.read HT.out).mono ?_
      rintro e6 w6 ⟨b1, k1, b2, k2, b3, k3, b4, k4, rfl, hs6, hb6⟩
      have hS6 := bl_step hb6 hS.size hS
      have hz6 := hb6.size
      have Hs6 := Lib.hid hs6
      clear hs6
      refine hK.out _ _ (hS6) ?_
      try simp only [Act.put, List.setIfInBounds_toArray, List.set_cons_zero, List.set_cons_succ]
      clear hK K hS
      clear hb6
      refine restK_take (v := ?_) 7 rfl (by kernel_rfl) (by kernel_rfl) (by kernel_rfl) (by kernel_rfl) (by kernel_rfl) (by kernel_rfl) (fun _ _ _ h => h) (by rfl) ?_ ?_
      rotate_left
      · intro w9 h9; try dsimp only at h9
        obtain ⟨x9, rfl⟩ := later_of h9
        go_simp; try with_reducible rfl
      try simp only [Act.put, List.setIfInBounds_toArray, List.set_cons_zero, List.set_cons_succ]
      refine restK_take (v := ?_) 8 rfl (by kernel_rfl) (by kernel_rfl) (by kernel_rfl) (by kernel_rfl) (by kernel_rfl) (by kernel_rfl) (fun _ _ _ h => h) (by rfl) ?_ ?_
      rotate_left
      · intro w9 h9; try dsimp only at h9
        obtain ⟨x9, rfl⟩ := later_of h9
        go_simp; try with_reducible rfl
      try simp only [Act.put, List.setIfInBounds_toArray, List.set_cons_zero, List.set_cons_succ]
      refine restK_break 9 rfl (by kernel_rfl) (by rfl) (by kernel_rfl) (fun hS K hK => ?_)
      have hcr0 := fun (o : Nat) => hS.cell (p := ⟨w.heap.size + 1 + 1, o, none⟩) (by (first | (simp; done) | (simp; omega) | omega))
      have hfr0 := fun (o : Nat) => hS.frozen (p := ⟨w.heap.size + 1 + 1, o, none⟩) (by (first | (simp; done) | (simp; omega) | omega))
      have HBw : Hid (Below w.heap.size w w6) := by unfold Hid; (repeat (first | with_reducible exact Below.refl _ _ | ((with_reducible refine bl_alloc ?_ ?_); (focus (first | (simp; done) | (simp; omega) | omega))) | ((with_reducible refine bl_set ?_ ?_); (focus (first | (simp; done) | (simp; omega) | omega))) | ((with_reducible refine bl_later ?_ ?_); (focus (first | (simp; done) | (simp; omega) | omega))) | with_reducible refine bl_drew ?_ | with_reducible refine bl_drewN ?_ | ((with_reducible refine bl_step (by assumption) ?_ ?_); (focus (first | (simp; done) | (simp; omega) | omega)))))
      go_wp2_with fail
      refine hK.out _ _ trivial ?_
      try simp only [Act.put, List.setIfInBounds_toArray, List.set_cons_zero, List.set_cons_succ]
      clear hK K hS
      refine rest_take (v := ?_) 10 rfl (by kernel_rfl) (by kernel_rfl) (by kernel_rfl) (fun _ _ _ h => h) (by rfl) ?_ ?_
      rotate_left
      · intro w9; go_simp; try with_reducible rfl
      try simp only [Act.put, List.setIfInBounds_toArray, List.set_cons_zero, List.set_cons_succ]
      refine rest_done (by kernel_rfl) ?_
      go_wp2_with fail
      have hBw := HBw.out
      refine bodyPost_ret (v := .tuple #[.agg #[.slice b1 (bothWroteF d e (slotOf i) [i, t, c, s, k, a, b, x, y, i, i]).1.1.1.length k1, .slice b2 (bothWroteF d e (slotOf i) [i, t, c, s, k, a, b, x, y, i, i]).1.1.2.length k2, .slice b3 (bothWroteF d e (slotOf i) [i, t, c, s, k, a, b, x, y, i, i]).1.2.1.length k3, .slice b4 (bothWroteF d e (slotOf i) [i, t, c, s, k, a, b, x, y, i, i]).1.2.2.length k4], .bool (bothWroteF d e (slotOf i) [i, t, c, s, k, a, b, x, y, i, i]).2]) (by simp [results, Try.results8, go_sem, *]) rfl ⟨b1, k1, b2, k2, b3, k3, b4, k4, ?_, ?_, ?_⟩
      · rw [HEn.out]
      · rw [HEn.out]
        exact (Hs6.out.kp (by clear hBw; (repeat (first | with_reducible exact kp_refl | ((with_reducible refine kp_alloc ?_ ?_); (focus (first | (simp; done) | (simp; omega) | omega))) | ((with_reducible refine kp_set ?_ ?_); (focus (first | (simp; done) | (simp; omega) | omega))) | with_reducible refine kp_drew ?_ | with_reducible refine kp_drewN ?_ | ((with_reducible refine kp_step (by assumption) ?_ ?_); (focus (first | (simp; done) | (simp; omega) | omega))))))).wide (by have := hBw.size; omega) (by (first | (simp; done) | (simp; omega) | omega))
      · (repeat (first | with_reducible exact Below.refl _ _ | ((with_reducible refine bl_alloc ?_ ?_); (focus (first | (simp; done) | (simp; omega) | omega))) | ((with_reducible refine bl_set ?_ ?_); (focus (first | (simp; done) | (simp; omega) | omega))) | ((with_reducible refine bl_later ?_ ?_); (focus (first | (simp; done) | (simp; omega) | omega))) | with_reducible refine bl_drew ?_ | with_reducible refine bl_drewN ?_ | ((with_reducible refine bl_step (by assumption) ?_ ?_); (focus (first | (simp; done) | (simp; omega) | omega)))))

end Go.Proofs.Ytmjafclpeknpcaa
/- In a region that draws its order: an operation that yields the same in every world is taken first, whatever the condition. -/
namespace Go.Proofs.Ytmjafclpeknpcaa
open Go.RowKit
section
variable {P : Program} {ops : Array Oper} {Q : Exit → Act → World → Prop} {S : World → Prop} {md : Region.Mode} {ks : List Nat}
theorem wpAnyK_firstP {i : Nat} {oi : Oper} {v : Value} (hi : ops[i]? = some oi) (hsel : ∀ (j : Nat) (o : Oper) cs b, ops[j]? = some o → o.op ≠ .select cs b)
    (hQ : ∀ c a w, Q (.panic c) (a.put oi.dst v) w → Q (.panic c) a w) (hik : i ∉ ks) :
    ∀ (fuel : Nat) (listed : Array Bool) (a : Act) (w : World),
      (∀ j oj, ops[j]? = some oj → j ≠ i → listed.getD j true = false → (∀ e ∈ oj.after, Region.binds md e = true → e.on ≠ i) → oi.apart ops oj = true) →
      i ∈ Region.ready md ops listed → YieldsIf P ops (fun _ => True) oi v a → (unbroken ks listed = true → S w) →
      wpAnyK P md ops Q ks S fuel (listed.setIfInBounds i true) (a.put oi.dst v) w → wpAnyK P md ops Q ks S (fuel + 1) listed a w := by
  have hset : ∀ L : Array Bool, unbroken ks (L.setIfInBounds i true) = true → unbroken ks L = true := fun L h => unbroken_of fun k hk => by
    have := unbroken_at h hk
    rwa [getD_set_ne true (fun e : i = k => hik (by rw [e]; exact hk))] at this
  have hset2 : ∀ L : Array Bool, unbroken ks L = true → unbroken ks (L.setIfInBounds i true) = true := fun L h => unbroken_of fun k hk => by
    rw [getD_set_ne true (fun e : i = k => hik (by rw [e]; exact hk))]
    exact unbroken_at h hk
  intro fuel
  induction fuel with
  | zero =>
    intro listed a w _ hr hy hS H
    refine ⟨fun h => (by rw [h] at hr; cases hr), fun j hj => ?_⟩
    by_cases hji : j = i
    · subst hji; exact hy.wpOp hi trivial ⟨fun h => hS (hset _ h), H⟩
    · have := ready_mono hj hji
      rw [H.1] at this
      cases this
  | succ fuel ih =>
    intro listed a w hfree hr hy hS H
    refine ⟨fun h => (by rw [h] at hr; cases hr), fun j hj => ?_⟩
    by_cases hji : j = i
    · subst hji; exact hy.wpOp hi trivial ⟨fun h => hS (hset _ h), H⟩
    · have h1 := H.2 j (ready_mono hj hji)
      obtain ⟨hjun, oj, hoj, hall⟩ := mem_ready.1 hj
      have hnot : ∀ e ∈ oj.after, Region.binds md e = true → e.on ≠ i := fun e he hb heq => by
        have h1 := hall e he hb
        have h0 := (mem_ready.1 hr).1
        rw [heq] at h1
        rcases Nat.lt_or_ge i listed.size with h' | h'
        · simp [h'] at h0 h1; rw [h0] at h1; cases h1
        · simp [Array.getElem?_eq_none h'] at h1
      have h2 := wpOp_putIf hoj (hfree j oj hoj hji hjun hnot) (fun cs b => hsel i oi cs b hi) (fun cs b => hsel j oj cs b hoj) hQ hy h1
      have hfree' : ∀ k ok, ops[k]? = some ok → k ≠ i → (listed.setIfInBounds j true).getD k true = false →
          (∀ e ∈ ok.after, Region.binds md e = true → e.on ≠ i) → oi.apart ops ok = true := fun k ok hk hki hun hno => by
        refine hfree k ok hk hki ?_ hno
        by_cases hjk : j = k
        · subst hjk; exact hjun
        · rw [getD_set_ne true hjk] at hun; exact hun
      have hcomm : (listed.setIfInBounds i true).setIfInBounds j true = (listed.setIfInBounds j true).setIfInBounds i true := Array.setIfInBounds_comm _ _ (Ne.symm hji)
      refine wpOp_mono (fun a' w' h3 => ?_) h2
      have hs' : unbroken ks (listed.setIfInBounds j true) = true → S w' := fun hu => h3.2.1 (by rw [hcomm]; exact hset2 _ hu)
      refine ⟨hs', ih (listed.setIfInBounds j true) a' w' hfree' (ready_mono hr (Ne.symm hji)) h3.1 hs' ?_⟩
      rw [← hcomm]
      exact h3.2.2
theorem restK_pure (i : Nat) {d : Tmp} {op : Op} {ty : TypeId} {pos : String} {af : Array Edge} {g : Option (Nat × Bool)} {fuel : Nat} {listed : Array Bool} {a : Act} {w : World} {v : Value}
    (hi : ops[i]? = some ⟨some d, op, ty, pos, af, g⟩) (hs : Region.noSelect ops = true) (hf : Region.free .any ops listed i = true) (hr : (Region.ready .any ops listed).contains i = true)
    (hk : ks.contains i = false)
    (hQ : ∀ c a w, Q (.panic c) (a.put (some d) v) w → Q (.panic c) a w) (hw : Region.wanted ⟨some d, op, ty, pos, af, g⟩ (yielded ops a.tmps) = true)
    (hy : ∀ w', (execOp a.eval ⟨some d, op, ty, pos, af, g⟩).run P w' = .ok (.value v) w')
    (h : RestK P ops Q ks S fuel (listed.setIfInBounds i true) (a.put (some d) v) w) : RestK P ops Q ks S (fuel + 1) listed a w :=
  fun hS => wpAnyK_firstP hi (Region.noSelect_spec hs) hQ (by simpa using hk) fuel listed a w (Region.free_spec hi hf) (by simpa using hr) (.inl ⟨hw, fun w' _ => hy w'⟩) (fun _ => hS) (h hS)
theorem restK_skipP (i : Nat) {d : Tmp} {op : Op} {ty : TypeId} {pos : String} {af : Array Edge} {g : Option (Nat × Bool)} {fuel : Nat} {listed : Array Bool} {a : Act} {w : World}
    (hi : ops[i]? = some ⟨some d, op, ty, pos, af, g⟩) (hs : Region.noSelect ops = true) (hf : Region.free .any ops listed i = true) (hr : (Region.ready .any ops listed).contains i = true)
    (hk : ks.contains i = false)
    (hQ : ∀ c a w, Q (.panic c) (a.put (some d) undef) w → Q (.panic c) a w) (hw : Region.wanted ⟨some d, op, ty, pos, af, g⟩ (yielded ops a.tmps) = false)
    (h : RestK P ops Q ks S fuel (listed.setIfInBounds i true) (a.put (some d) undef) w) : RestK P ops Q ks S (fuel + 1) listed a w :=
  fun hS => wpAnyK_firstP hi (Region.noSelect_spec hs) hQ (by simpa using hk) fuel listed a w (Region.free_spec hi hf) (by simpa using hr) (.inr ⟨hw, rfl⟩) (fun _ => hS) (h hS)
end
end Go.Proofs.Ytmjafclpeknpcaa
/- The laws find their marks again: in lists of rows, lists of writes, disks. -/
namespace Go.Proofs.Ytmjafclpeknpcaa
open Go.ChangeShapes Go.WideShapes Go.ChangeAt Go.RowKit Go.Deep
set_option maxHeartbeats 1600000
set_option maxRecDepth 100000
theorem c_heldRows (ao : Option Addr) (cap : Nat) (K : List (List Int)) (k : Int) (w : World) (h : RowsR w ao (mkRows k K)) (hk : 0 ≤ k) (hk2 : k + lenSum K ≤ 1099511627776) (hl : K.length ≤ 1048576) :
    Calls Try.prog 96 #[.slice ao K.length cap, .int .i64 k] w fun e w' => e = .returned (.int .i64 (k + lenSum K)) ∧ w = w' := by
  go_enter Try.func96, Try.ntmps96
  go_wp2
  go_loop [1, 5] (fun kk i => ∃ q : Nat, q ≤ K.length ∧ i = .int .i64 q ∧ kk = .int .i64 (k + lenSum (K.take q))) (fun _ i => K.length - (intOf i).toNat)
  case atStart => exact ⟨0, Nat.zero_le _, rfl, by simp [lenSum]⟩
  case round =>
    obtain ⟨q, hq, rfl, rfl⟩ := hrel
    by_cases hqt : q < K.length
    · have hp : (q : Int) < (K.length : Int) := by omega
      have hql : q < (mkRows k K).length := by rw [length_mkRows]; exact hqt
      have hat := mkRows_at (k := k) hqt
      rw [List.getElem?_eq_getElem hql] at hat
      have hat := Option.some.inj hat
      obtain ⟨b, off, rfl, hbl, hc⟩ := h.at hql
      obtain ⟨ai, ci, hcell, hr, hci⟩ := hc q hql
      rw [hat] at hcell hr
      rw [length_seqI] at hcell
      have ht := lenSum_take hqt
      have hle := lenSum_le K (q + 1)
      have Ht := Lib.hid ht
      obtain ⟨m, hm⟩ : ∃ m : Int, k + (lenSum (K.take q) : Int) = m := ⟨_, rfl⟩
      have Hm := Lib.hid hm
      rw [hm] at hr ⊢
      have hm0 : 0 ≤ m := by omega
      have hm1 : m ≤ 1099511627776 := by omega
      have hrl : K[q].length ≤ 1099511627776 := by omega
      have hng : ¬ m + (K[q].length : Int) < 0 := by omega
      clear hm ht hle hat hc
      go_wp2_with fail
      refine (c_laws_heldInt64S ai ci K[q].length m _ hr hm0 hm1 hrl).mono ?_
      rintro e w' ⟨rfl, rfl⟩
      go_wp2_with fail
      go_round
      case rel => exact ⟨q + 1, by omega, by go_num, by have := Ht.out; have := Hm.out; congr 1; omega⟩
      case measure => simp [intOf]; omega
    · obtain rfl : q = K.length := by omega
      rw [List.take_length]
      go_wp2_with fail
      go_ret
      exact ⟨rfl, rfl⟩
theorem c_heldWrites (ao : Option Addr) (cap : Nat) (K : List (Int × List Int)) (k : Int) (w : World) (h : WritesR w ao (mkWrites k K)) (hk : 0 ≤ k) (hk2 : k + szW K ≤ 1099511627776) (hl : K.length ≤ 1048576) :
    Calls Try.prog 97 #[.slice ao K.length cap, .int .i64 k] w fun e w' => e = .returned (.int .i64 (k + szW K)) ∧ w = w' := by
  go_enter Try.func97, Try.ntmps97
  go_wp2
  go_loop [1, 5] (fun kk i => ∃ q : Nat, q ≤ K.length ∧ i = .int .i64 q ∧ kk = .int .i64 (k + szW (K.take q))) (fun _ i => K.length - (intOf i).toNat)
  case atStart => exact ⟨0, Nat.zero_le _, rfl, by simp [szW, wrows, lenSum]⟩
  case round =>
    obtain ⟨q, hq, rfl, rfl⟩ := hrel
    by_cases hqt : q < K.length
    · have hp : (q : Int) < (K.length : Int) := by omega
      have hql : q < (mkWrites k K).length := by rw [length_mkWrites]; exact hqt
      have hat := mkWrites_at (k := k) hqt
      rw [List.getElem?_eq_getElem hql] at hat
      have hat := Option.some.inj hat
      obtain ⟨b, off, rfl, hbl, hc⟩ := h.at hql
      obtain ⟨_, hc0, ai, ci, hcell, hr, hci⟩ := hc q hql
      rw [hat] at hcell hr hc0
      simp only at hcell hr hc0
      rw [length_seqI] at hcell
      have ht := szW_take hqt
      have hle := szW_le K (q + 1)
      have Ht := Lib.hid ht
      obtain ⟨m, hm⟩ : ∃ m : Int, k + (szW (K.take q) : Int) = m := ⟨_, rfl⟩
      have Hm := Lib.hid hm
      rw [hm] at hr hc0 ⊢
      have hm0 : 0 ≤ m := by omega
      have hm1 : m + 1 ≤ 1099511627776 := by omega
      have hrl : K[q].2.length ≤ 1099511627776 := by omega
      have hng : ¬ m + 1 + (K[q].2.length : Int) < 0 := by omega
      clear hm ht hle hat hc
      go_wp2_with fail
      refine (c_laws_heldInt64S ai ci K[q].2.length (m + 1) _ hr (by omega) hm1 hrl).mono ?_
      rintro e w' ⟨rfl, rfl⟩
      go_wp2_with fail
      go_round
      case rel => exact ⟨q + 1, by omega, by go_num, by have := Ht.out; have := Hm.out; congr 1; omega⟩
      case measure => simp [intOf]; omega
    · obtain rfl : q = K.length := by omega
      rw [List.take_length]
      go_wp2_with fail
      go_ret
      exact ⟨rfl, rfl⟩
theorem c_heldDisk (ak aw : Option Addr) (ck cw : Nat) (d : List (List Int) × List (Int × List Int)) (k : Int) (w : World) (h : DiskR w ak aw (mkDisk k d)) (hk : 0 ≤ k) (hk2 : k + mkSum d ≤ 1099511627776) (hI : DiskIn d) :
    Calls Try.prog 43 #[.agg #[.slice ak d.1.length ck, .slice aw d.2.length cw], .int .i64 k] w fun e w' => e = .returned (.int .i64 (k + mkSum d)) ∧ Below w.heap.size w w' := by
  have hb0 : Below w.heap.size w (w.alloc (.cells #[.slice ak d.1.length ck, .slice aw d.2.length cw] 35)) := (Below.refl _ _).alloc (Nat.le_refl _) _
  have HD := Lib.hid (h.below hb0)
  have hks : (mkSum d : Int) = lenSum d.1 + szW d.2 := by simp [mkSum]
  clear h
  have hn1 : ¬ k + (lenSum d.1 : Int) < 0 := by omega
  have hn2 : ¬ k + (lenSum d.1 : Int) + (szW d.2 : Int) < 0 := by omega
  go_enter Try.func43, Try.ntmps43
  go_wp2_with fail
  refine (c_heldRows ak ck d.1 k _ HD.out.1 hk (by omega) hI.1).mono ?_
  rintro e w2 ⟨rfl, rfl⟩
  go_wp2_with fail
  refine (c_heldWrites aw cw d.2 (k + lenSum d.1) _ HD.out.2 (by omega) (by omega) hI.2.2.1).mono ?_
  rintro e w3 ⟨rfl, rfl⟩
  go_wp2_with fail
  go_ret
  exact ⟨by show Ending.returned (Value.int .i64 (k + lenSum d.1 + szW d.2)) = _; rw [hks, Int.add_assoc], hb0⟩
theorem c_heldTwo (ak aw bk bw : Option Addr) (ck cw dk dw : Nat) (d e : List (List Int) × List (Int × List Int)) (k : Int) (w : World) (h : DiskR w ak aw (mkDisk k d)) (h2 : DiskR w bk bw (mkDisk (k + mkSum d) e)) (hk : 0 ≤ k) (hk2 : k + (mkSum d + mkSum e : Nat) ≤ 1099511627776) (hI : DiskIn d) (hJ : DiskIn e) :
    Calls Try.prog 14 #[.agg #[.slice ak d.1.length ck, .slice aw d.2.length cw, .slice bk e.1.length dk, .slice bw e.2.length dw], .int .i64 k] w fun en w' => en = .returned (.int .i64 (k + (mkSum d + mkSum e : Nat))) ∧ Below w.heap.size w w' := by
  have hb0 : Below w.heap.size w (w.alloc (.cells #[.slice ak d.1.length ck, .slice aw d.2.length cw, .slice bk e.1.length dk, .slice bw e.2.length dw] 37)) := (Below.refl _ _).alloc (Nat.le_refl _) _
  have HD := Lib.hid (h.below hb0)
  have HE := Lib.hid (h2.below hb0)
  have hks : ((mkSum d + mkSum e : Nat) : Int) = mkSum d + mkSum e := by simp
  clear h h2
  have hn1 : ¬ k + (mkSum d : Int) < 0 := by omega
  have hn2 : ¬ k + (mkSum d : Int) + (mkSum e : Int) < 0 := by omega
  go_enter Try.func14, Try.ntmps14
  go_wp2_with fail
  refine (c_heldDisk ak aw ck cw d k _ HD.out hk (by omega) hI).mono ?_
  rintro en w2 ⟨rfl, hb2⟩
  obtain ⟨hc, hf, hsz⟩ := bcell hb2
  have hz := hb2.size
  simp only [World.size_alloc] at hz
  go_wp2_with fail
  refine (c_heldDisk bk bw dk dw e (k + mkSum d) _ (HE.out.below hb2) (by omega) (by omega) hJ).mono ?_
  rintro en w3 ⟨rfl, hb3⟩
  go_wp2_with fail
  go_ret
  exact ⟨by show Ending.returned (Value.int .i64 (k + mkSum d + mkSum e)) = _; rw [hks, Int.add_assoc], by (repeat (first | with_reducible exact Below.refl _ _ | ((with_reducible refine bl_alloc ?_ ?_); (focus (first | (simp; done) | (simp; omega) | omega))) | ((with_reducible refine bl_set ?_ ?_); (focus (first | (simp; done) | (simp; omega) | omega))) | ((with_reducible refine bl_later ?_ ?_); (focus (first | (simp; done) | (simp; omega) | omega))) | with_reducible refine bl_drew ?_ | with_reducible refine bl_drewN ?_ | ((with_reducible refine bl_step (by assumption) ?_ ?_); (focus (first | (simp; done) | (simp; omega) | omega)))))⟩
end Go.Proofs.Ytmjafclpeknpcaa
/- Walks of functions of the program, printed by a program of the prover. -/
namespace Go.Proofs.Ytmjafclpeknpcaa
open Go.ChangeShapes Go.WideShapes Go.ChangeAt Go.RowKit Go.Deep
set_option maxHeartbeats 1600000
set_option maxRecDepth 100000

theorem c_eqRows_same (ao ao2 : Option Addr) (cap cap2 : Nat) (K : List (List Int)) (w : World) (h : RowsR w ao K) (h2 : RowsR w ao2 K) :
    Calls Try.prog 92 #[.slice ao K.length cap, .slice ao2 K.length cap2] w fun e w' => e = .returned (.bool true) ∧ Below w.heap.size w w' := by
  have hm := h.1
  go_enter Try.func92, Try.ntmps92
  go_wp2_with fail
  go_loopw [5] (fun i wr => ∃ k : Nat, k ≤ K.length ∧ i = .int .i64 k ∧ Below w.heap.size w wr) (fun i _ => K.length - (intOf i).toNat)
  case atStart => exact ⟨0, Nat.zero_le _, rfl, Below.refl _ _⟩
  case round =>
    obtain ⟨k, hk, rfl, hbel⟩ := hrel
    by_cases hlt : k < K.length
    · have hp : (k : Int) < (K.length : Int) := by omega
      obtain ⟨b, off, rfl, hbl, hc⟩ := (h.below hbel).at hlt
      obtain ⟨b2, off2, rfl, hbl2, hd⟩ := (h2.below hbel).at hlt
      obtain ⟨ai, ci, hcell, hr, _⟩ := hc k hlt
      obtain ⟨a2, c2, hcell2, hr2, _⟩ := hd k hlt
      clear hc hd
      generalize K[k] = r at hcell hr hcell2 hr2
      go_wp2_with fail
      refine restS_begin (fun W => Below wr.heap.size wr W) (by kernel_rfl) (Below.refl _ _).drew ?_
      refine restS_take (v := ?_) 0 rfl (by kernel_rfl) (by kernel_rfl) (by kernel_rfl) (fun _ _ _ h => h) (by rfl) ?_ ?_
      rotate_left
      · intro w9 h9; try dsimp only at h9
        go_split_ands
        go_simp; try with_reducible rfl
      try simp only [Act.put, List.setIfInBounds_toArray, List.set_cons_zero, List.set_cons_succ]
      refine restS_take (v := ?_) 1 rfl (by kernel_rfl) (by kernel_rfl) (by kernel_rfl) (fun _ _ _ h => h) (by rfl) ?_ ?_
      rotate_left
      · intro w9 h9; try dsimp only at h9
        go_split_ands
        go_simp; try with_reducible rfl
      try simp only [Act.put, List.setIfInBounds_toArray, List.set_cons_zero, List.set_cons_succ]
      refine restS_take (v := ?_) 2 rfl (by kernel_rfl) (by kernel_rfl) (by kernel_rfl) (fun _ _ _ h => h) (by rfl) ?_ ?_
      rotate_left
      · intro w9 h9; try dsimp only at h9
        go_split_ands
        go_simp; try with_reducible rfl
      try simp only [Act.put, List.setIfInBounds_toArray, List.set_cons_zero, List.set_cons_succ]
      refine restS_take (v := ?_) 3 rfl (by kernel_rfl) (by kernel_rfl) (by kernel_rfl) (fun _ _ _ h => h) (by rfl) ?_ ?_
      rotate_left
      · intro w9 h9; try dsimp only at h9
        obtain ⟨x9, rfl⟩ := later_of h9
        go_simp; try with_reducible rfl
      try simp only [Act.put, List.setIfInBounds_toArray, List.set_cons_zero, List.set_cons_succ]
      refine restS_take (v := ?_) 4 rfl (by kernel_rfl) (by kernel_rfl) (by kernel_rfl) (fun _ _ _ h => h) (by rfl) ?_ ?_
      rotate_left
      · intro w9 h9; try dsimp only at h9
        go_split_ands
        go_simp; try with_reducible rfl
      try simp only [Act.put, List.setIfInBounds_toArray, List.set_cons_zero, List.set_cons_succ]
      refine restS_take (v := ?_) 5 rfl (by kernel_rfl) (by kernel_rfl) (by kernel_rfl) (fun _ _ _ h => h) (by rfl) ?_ ?_
      rotate_left
      · intro w9 h9; try dsimp only at h9
        go_split_ands
        go_simp; try with_reducible rfl
      try simp only [Act.put, List.setIfInBounds_toArray, List.set_cons_zero, List.set_cons_succ]
      refine restS_take (v := ?_) 6 rfl (by kernel_rfl) (by kernel_rfl) (by kernel_rfl) (fun _ _ _ h => h) (by rfl) ?_ ?_
      rotate_left
      · intro w9 h9; try dsimp only at h9
        go_split_ands
        go_simp; try with_reducible rfl
      try simp only [Act.put, List.setIfInBounds_toArray, List.set_cons_zero, List.set_cons_succ]
      refine restS_take (v := ?_) 7 rfl (by kernel_rfl) (by kernel_rfl) (by kernel_rfl) (fun _ _ _ h => h) (by rfl) ?_ ?_
      rotate_left
      · intro w9 h9; try dsimp only at h9
        obtain ⟨x9, rfl⟩ := later_of h9
        go_simp; try with_reducible rfl
      try simp only [Act.put, List.setIfInBounds_toArray, List.set_cons_zero, List.set_cons_succ]
      refine restS_alone 8 rfl (by kernel_rfl) (by rfl) (fun hS K hK => ?_)
      go_wp2_with fail
      refine (c_eqInt64S ai a2 ci c2 r r _ (hr.below hS) (hr2.below hS)).mono ?_
      rw [beq_self_eq_true]
      rintro e w5 ⟨rfl, hb5⟩
      refine hK.out _ _ (bl_step hb5 hS.size hS) ?_
      try simp only [Act.put, List.setIfInBounds_toArray, List.set_cons_zero, List.set_cons_succ]
      clear hK K hS hb5
      refine restS_take (v := ?_) 9 rfl (by kernel_rfl) (by kernel_rfl) (by kernel_rfl) (fun _ _ _ h => h) (by rfl) ?_ ?_
      rotate_left
      · intro w9 h9; try dsimp only at h9
        go_split_ands
        go_simp; try with_reducible rfl
      try simp only [Act.put, List.setIfInBounds_toArray, List.set_cons_zero, List.set_cons_succ]
      refine restS_done (by kernel_rfl) (fun hS => ?_)
      go_wp2_with fail
      go_roundw
      case rel => exact ⟨k + 1, by omega, by go_num, bl_step hS hbel.size hbel⟩
      case measure => simp [intOf]; omega
    · obtain rfl : k = K.length := by omega
      go_wp2_with fail
      go_ret
      exact ⟨rfl, hbel⟩

theorem c_eqWrite_same (a : Int) (ao ao2 : Option Addr) (cap cap2 : Nat) (l : List Int) (w : World) (h : IntsR w ao l) (h2 : IntsR w ao2 l) :
    Calls Try.prog 150 #[.agg #[.int .i64 a, .slice ao l.length cap], .agg #[.int .i64 a, .slice ao2 l.length cap2]] w fun e w' => e = .returned (.bool true) ∧ Below w.heap.size w w' := by
  have Hl : Hid (∀ W, Below w.heap.size w W → IntsR W ao l) := fun W hb => h.below hb
  have Hm : Hid (∀ W, Below w.heap.size w W → IntsR W ao2 l) := fun W hb => h2.below hb
  clear h h2
  go_enter Try.func150, Try.ntmps150
  go_wp2_with fail
  refine (c_eqInt64S ao ao2 cap cap2 l l _ (Hl.out _ (by (repeat (first | with_reducible exact Below.refl _ _ | ((with_reducible refine bl_alloc ?_ ?_); (focus (first | (simp; done) | (simp; omega) | omega))) | ((with_reducible refine bl_set ?_ ?_); (focus (first | (simp; done) | (simp; omega) | omega))) | ((with_reducible refine bl_later ?_ ?_); (focus (first | (simp; done) | (simp; omega) | omega))) | with_reducible refine bl_drew ?_ | with_reducible refine bl_drewN ?_ | ((with_reducible refine bl_step (by assumption) ?_ ?_); (focus (first | (simp; done) | (simp; omega) | omega))))))) (Hm.out _ (by (repeat (first | with_reducible exact Below.refl _ _ | ((with_reducible refine bl_alloc ?_ ?_); (focus (first | (simp; done) | (simp; omega) | omega))) | ((with_reducible refine bl_set ?_ ?_); (focus (first | (simp; done) | (simp; omega) | omega))) | ((with_reducible refine bl_later ?_ ?_); (focus (first | (simp; done) | (simp; omega) | omega))) | with_reducible refine bl_drew ?_ | with_reducible refine bl_drewN ?_ | ((with_reducible refine bl_step (by assumption) ?_ ?_); (focus (first | (simp; done) | (simp; omega) | omega)))))))).mono ?_
  rw [beq_self_eq_true]
  rintro e w2 ⟨rfl, hb2⟩
  go_wp2_with fail
  go_ret
  exact ⟨rfl, by (repeat (first | with_reducible exact Below.refl _ _ | ((with_reducible refine bl_alloc ?_ ?_); (focus (first | (simp; done) | (simp; omega) | omega))) | ((with_reducible refine bl_set ?_ ?_); (focus (first | (simp; done) | (simp; omega) | omega))) | ((with_reducible refine bl_later ?_ ?_); (focus (first | (simp; done) | (simp; omega) | omega))) | with_reducible refine bl_drew ?_ | with_reducible refine bl_drewN ?_ | ((with_reducible refine bl_step (by assumption) ?_ ?_); (focus (first | (simp; done) | (simp; omega) | omega)))))⟩

theorem c_eqWrites_same (ao ao2 : Option Addr) (cap cap2 : Nat) (K : List (Int × List Int)) (w : World) (h : WritesR w ao K) (h2 : WritesR w ao2 K) :
    Calls Try.prog 93 #[.slice ao K.length cap, .slice ao2 K.length cap2] w fun e w' => e = .returned (.bool true) ∧ Below w.heap.size w w' := by
  have hm := h.1
  go_enter Try.func93, Try.ntmps93
  go_wp2_with fail
  go_loopw [5] (fun i wr => ∃ k : Nat, k ≤ K.length ∧ i = .int .i64 k ∧ Below w.heap.size w wr) (fun i _ => K.length - (intOf i).toNat)
  case atStart => exact ⟨0, Nat.zero_le _, rfl, Below.refl _ _⟩
  case round =>
    obtain ⟨k, hk, rfl, hbel⟩ := hrel
    by_cases hlt : k < K.length
    · have hp : (k : Int) < (K.length : Int) := by omega
      obtain ⟨b, off, rfl, hbl, hc⟩ := (h.below hbel).at hlt
      obtain ⟨b2, off2, rfl, hbl2, hd⟩ := (h2.below hbel).at hlt
      obtain ⟨_, hc0, ai, ci, hcell, hr, _⟩ := hc k hlt
      obtain ⟨_, hd0, a2, c2, hcell2, hr2, _⟩ := hd k hlt
      clear hc hd
      generalize K[k] = e at hc0 hd0 hcell hr hcell2 hr2
      obtain ⟨a, r⟩ := e
      simp only at hc0 hd0 hcell hr hcell2 hr2
      go_wp2_with fail
      refine restS_begin (fun W => Below wr.heap.size wr W) (by kernel_rfl) (Below.refl _ _).drew ?_
      refine restS_take (v := ?_) 0 rfl (by kernel_rfl) (by kernel_rfl) (by kernel_rfl) (fun _ _ _ h => h) (by rfl) ?_ ?_
      rotate_left
      · intro w9 h9; try dsimp only at h9
        go_split_ands
        go_simp; try with_reducible rfl
      try simp only [Act.put, List.setIfInBounds_toArray, List.set_cons_zero, List.set_cons_succ]
      refine restS_take (v := ?_) 1 rfl (by kernel_rfl) (by kernel_rfl) (by kernel_rfl) (fun _ _ _ h => h) (by rfl) ?_ ?_
      rotate_left
      · intro w9 h9; try dsimp only at h9
        go_split_ands
        go_simp; try with_reducible rfl
      try simp only [Act.put, List.setIfInBounds_toArray, List.set_cons_zero, List.set_cons_succ]
      refine restS_take (v := ?_) 2 rfl (by kernel_rfl) (by kernel_rfl) (by kernel_rfl) (fun _ _ _ h => h) (by rfl) ?_ ?_
      rotate_left
      · intro w9 h9; try dsimp only at h9
        go_split_ands
        go_simp; try with_reducible rfl
      try simp only [Act.put, List.setIfInBounds_toArray, List.set_cons_zero, List.set_cons_succ]
      refine restS_take (v := ?_) 3 rfl (by kernel_rfl) (by kernel_rfl) (by kernel_rfl) (fun _ _ _ h => h) (by rfl) ?_ ?_
      rotate_left
      · intro w9 h9; try dsimp only at h9
        obtain ⟨x9, rfl⟩ := later_of h9
        go_simp; try with_reducible rfl
      try simp only [Act.put, List.setIfInBounds_toArray, List.set_cons_zero, List.set_cons_succ]
      refine restS_take (v := ?_) 4 rfl (by kernel_rfl) (by kernel_rfl) (by kernel_rfl) (fun _ _ _ h => h) (by rfl) ?_ ?_
      rotate_left
      · intro w9 h9; try dsimp only at h9
        go_split_ands
        go_simp; try with_reducible rfl
      try simp only [Act.put, List.setIfInBounds_toArray, List.set_cons_zero, List.set_cons_succ]
      refine restS_take (v := ?_) 5 rfl (by kernel_rfl) (by kernel_rfl) (by kernel_rfl) (fun _ _ _ h => h) (by rfl) ?_ ?_
      rotate_left
      · intro w9 h9; try dsimp only at h9
        go_split_ands
        go_simp; try with_reducible rfl
      try simp only [Act.put, List.setIfInBounds_toArray, List.set_cons_zero, List.set_cons_succ]
      refine restS_take (v := ?_) 6 rfl (by kernel_rfl) (by kernel_rfl) (by kernel_rfl) (fun _ _ _ h => h) (by rfl) ?_ ?_
      rotate_left
      · intro w9 h9; try dsimp only at h9
        go_split_ands
        go_simp; try with_reducible rfl
      try simp only [Act.put, List.setIfInBounds_toArray, List.set_cons_zero, List.set_cons_succ]
      refine restS_take (v := ?_) 7 rfl (by kernel_rfl) (by kernel_rfl) (by kernel_rfl) (fun _ _ _ h => h) (by rfl) ?_ ?_
      rotate_left
      · intro w9 h9; try dsimp only at h9
        obtain ⟨x9, rfl⟩ := later_of h9
        go_simp; try with_reducible rfl
      try simp only [Act.put, List.setIfInBounds_toArray, List.set_cons_zero, List.set_cons_succ]
      refine restS_alone 8 rfl (by kernel_rfl) (by rfl) (fun hS K hK => ?_)
      go_wp2_with fail
      refine (c_eqWrite_same a ai a2 ci c2 r _ (hr.below hS) (hr2.below hS)).mono ?_
      rintro e w5 ⟨rfl, hb5⟩
      refine hK.out _ _ (bl_step hb5 hS.size hS) ?_
      try simp only [Act.put, List.setIfInBounds_toArray, List.set_cons_zero, List.set_cons_succ]
      clear hK K hS hb5
      refine restS_take (v := ?_) 9 rfl (by kernel_rfl) (by kernel_rfl) (by kernel_rfl) (fun _ _ _ h => h) (by rfl) ?_ ?_
      rotate_left
      · intro w9 h9; try dsimp only at h9
        go_split_ands
        go_simp; try with_reducible rfl
      try simp only [Act.put, List.setIfInBounds_toArray, List.set_cons_zero, List.set_cons_succ]
      refine restS_done (by kernel_rfl) (fun hS => ?_)
      go_wp2_with fail
      go_roundw
      case rel => exact ⟨k + 1, by omega, by go_num, bl_step hS hbel.size hbel⟩
      case measure => simp [intOf]; omega
    · obtain rfl : k = K.length := by omega
      go_wp2_with fail
      go_ret
      exact ⟨rfl, hbel⟩

theorem c_eqDisk_same (ak aw bk bw : Option Addr) (ck cw dk dw : Nat) (d : List (List Int) × List (Int × List Int)) (w : World) (h : DiskR w ak aw d) (h2 : DiskR w bk bw d) :
    Calls Try.prog 41 #[.agg #[.slice ak d.1.length ck, .slice aw d.2.length cw], .agg #[.slice bk d.1.length dk, .slice bw d.2.length dw]] w fun e w' => e = .returned (.bool true) ∧ Below w.heap.size w w' := by
  have Hl : Hid (∀ W, Below w.heap.size w W → DiskR W ak aw d) := fun W hb => h.below hb
  have Hm : Hid (∀ W, Below w.heap.size w W → DiskR W bk bw d) := fun W hb => h2.below hb
  clear h h2
  go_enter Try.func41, Try.ntmps41
  go_wp2_with fail
  refine (c_eqRows_same ak bk ck dk d.1 _ (Hl.out _ (by (repeat (first | with_reducible exact Below.refl _ _ | ((with_reducible refine bl_alloc ?_ ?_); (focus (first | (simp; done) | (simp; omega) | omega))) | ((with_reducible refine bl_set ?_ ?_); (focus (first | (simp; done) | (simp; omega) | omega))) | ((with_reducible refine bl_later ?_ ?_); (focus (first | (simp; done) | (simp; omega) | omega))) | with_reducible refine bl_drew ?_ | with_reducible refine bl_drewN ?_ | ((with_reducible refine bl_step (by assumption) ?_ ?_); (focus (first | (simp; done) | (simp; omega) | omega))))))).1 (Hm.out _ (by (repeat (first | with_reducible exact Below.refl _ _ | ((with_reducible refine bl_alloc ?_ ?_); (focus (first | (simp; done) | (simp; omega) | omega))) | ((with_reducible refine bl_set ?_ ?_); (focus (first | (simp; done) | (simp; omega) | omega))) | ((with_reducible refine bl_later ?_ ?_); (focus (first | (simp; done) | (simp; omega) | omega))) | with_reducible refine bl_drew ?_ | with_reducible refine bl_drewN ?_ | ((with_reducible refine bl_step (by assumption) ?_ ?_); (focus (first | (simp; done) | (simp; omega) | omega))))))).1).mono ?_
  rintro e w2 ⟨rfl, hb2⟩
  obtain ⟨hc, hf, hsz⟩ := bcell hb2
  have hz := hb2.size
  simp only [World.size_alloc] at hz
  go_wp2_with fail
  refine (c_eqWrites_same aw bw cw dw d.2 _ (Hl.out _ (by (repeat (first | with_reducible exact Below.refl _ _ | ((with_reducible refine bl_alloc ?_ ?_); (focus (first | (simp; done) | (simp; omega) | omega))) | ((with_reducible refine bl_set ?_ ?_); (focus (first | (simp; done) | (simp; omega) | omega))) | ((with_reducible refine bl_later ?_ ?_); (focus (first | (simp; done) | (simp; omega) | omega))) | with_reducible refine bl_drew ?_ | with_reducible refine bl_drewN ?_ | ((with_reducible refine bl_step (by assumption) ?_ ?_); (focus (first | (simp; done) | (simp; omega) | omega))))))).2 (Hm.out _ (by (repeat (first | with_reducible exact Below.refl _ _ | ((with_reducible refine bl_alloc ?_ ?_); (focus (first | (simp; done) | (simp; omega) | omega))) | ((with_reducible refine bl_set ?_ ?_); (focus (first | (simp; done) | (simp; omega) | omega))) | ((with_reducible refine bl_later ?_ ?_); (focus (first | (simp; done) | (simp; omega) | omega))) | with_reducible refine bl_drew ?_ | with_reducible refine bl_drewN ?_ | ((with_reducible refine bl_step (by assumption) ?_ ?_); (focus (first | (simp; done) | (simp; omega) | omega))))))).2).mono ?_
  rintro e w3 ⟨rfl, hb3⟩
  go_wp2_with fail
  go_ret
  exact ⟨rfl, by (repeat (first | with_reducible exact Below.refl _ _ | ((with_reducible refine bl_alloc ?_ ?_); (focus (first | (simp; done) | (simp; omega) | omega))) | ((with_reducible refine bl_set ?_ ?_); (focus (first | (simp; done) | (simp; omega) | omega))) | ((with_reducible refine bl_later ?_ ?_); (focus (first | (simp; done) | (simp; omega) | omega))) | with_reducible refine bl_drew ?_ | with_reducible refine bl_drewN ?_ | ((with_reducible refine bl_step (by assumption) ?_ ?_); (focus (first | (simp; done) | (simp; omega) | omega)))))⟩
theorem c_eqTwo_same (ak aw bk bw ak2 aw2 bk2 bw2 : Option Addr) (ck cw dk dw ck2 cw2 dk2 dw2 : Nat) (d e : List (List Int) × List (Int × List Int)) (w : World) (h : DiskR w ak aw d) (h2 : DiskR w bk bw e) (h3 : DiskR w ak2 aw2 d) (h4 : DiskR w bk2 bw2 e) :
    Calls Try.prog 12 #[.agg #[.slice ak d.1.length ck, .slice aw d.2.length cw, .slice bk e.1.length dk, .slice bw e.2.length dw], .agg #[.slice ak2 d.1.length ck2, .slice aw2 d.2.length cw2, .slice bk2 e.1.length dk2, .slice bw2 e.2.length dw2]] w fun en w' => en = .returned (.bool true) ∧ Below w.heap.size w w' := by
  have Hl : Hid (∀ W, Below w.heap.size w W → DiskR W ak aw d) := fun W hb => h.below hb
  have Hm : Hid (∀ W, Below w.heap.size w W → DiskR W bk bw e) := fun W hb => h2.below hb
  have Hl2 : Hid (∀ W, Below w.heap.size w W → DiskR W ak2 aw2 d) := fun W hb => h3.below hb
  have Hm2 : Hid (∀ W, Below w.heap.size w W → DiskR W bk2 bw2 e) := fun W hb => h4.below hb
  clear h h2 h3 h4
  go_enter Try.func12, Try.ntmps12
  go_wp2_with fail
  refine (c_eqDisk_same ak aw ak2 aw2 ck cw ck2 cw2 d _ (Hl.out _ (by (repeat (first | with_reducible exact Below.refl _ _ | ((with_reducible refine bl_alloc ?_ ?_); (focus (first | (simp; done) | (simp; omega) | omega))) | ((with_reducible refine bl_set ?_ ?_); (focus (first | (simp; done) | (simp; omega) | omega))) | ((with_reducible refine bl_later ?_ ?_); (focus (first | (simp; done) | (simp; omega) | omega))) | with_reducible refine bl_drew ?_ | with_reducible refine bl_drewN ?_ | ((with_reducible refine bl_step (by assumption) ?_ ?_); (focus (first | (simp; done) | (simp; omega) | omega))))))) (Hl2.out _ (by (repeat (first | with_reducible exact Below.refl _ _ | ((with_reducible refine bl_alloc ?_ ?_); (focus (first | (simp; done) | (simp; omega) | omega))) | ((with_reducible refine bl_set ?_ ?_); (focus (first | (simp; done) | (simp; omega) | omega))) | ((with_reducible refine bl_later ?_ ?_); (focus (first | (simp; done) | (simp; omega) | omega))) | with_reducible refine bl_drew ?_ | with_reducible refine bl_drewN ?_ | ((with_reducible refine bl_step (by assumption) ?_ ?_); (focus (first | (simp; done) | (simp; omega) | omega)))))))).mono ?_
  rintro e w2 ⟨rfl, hb2⟩
  obtain ⟨hc, hf, hsz⟩ := bcell hb2
  have hz := hb2.size
  simp only [World.size_alloc] at hz
  go_wp2_with fail
  refine (c_eqDisk_same bk bw bk2 bw2 dk dw dk2 dw2 e _ (Hm.out _ (by (repeat (first | with_reducible exact Below.refl _ _ | ((with_reducible refine bl_alloc ?_ ?_); (focus (first | (simp; done) | (simp; omega) | omega))) | ((with_reducible refine bl_set ?_ ?_); (focus (first | (simp; done) | (simp; omega) | omega))) | ((with_reducible refine bl_later ?_ ?_); (focus (first | (simp; done) | (simp; omega) | omega))) | with_reducible refine bl_drew ?_ | with_reducible refine bl_drewN ?_ | ((with_reducible refine bl_step (by assumption) ?_ ?_); (focus (first | (simp; done) | (simp; omega) | omega))))))) (Hm2.out _ (by (repeat (first | with_reducible exact Below.refl _ _ | ((with_reducible refine bl_alloc ?_ ?_); (focus (first | (simp; done) | (simp; omega) | omega))) | ((with_reducible refine bl_set ?_ ?_); (focus (first | (simp; done) | (simp; omega) | omega))) | ((with_reducible refine bl_later ?_ ?_); (focus (first | (simp; done) | (simp; omega) | omega))) | with_reducible refine bl_drew ?_ | with_reducible refine bl_drewN ?_ | ((with_reducible refine bl_step (by assumption) ?_ ?_); (focus (first | (simp; done) | (simp; omega) | omega)))))))).mono ?_
  rintro e w3 ⟨rfl, hb3⟩
  go_wp2_with fail
  go_ret
  exact ⟨rfl, by (repeat (first | with_reducible exact Below.refl _ _ | ((with_reducible refine bl_alloc ?_ ?_); (focus (first | (simp; done) | (simp; omega) | omega))) | ((with_reducible refine bl_set ?_ ?_); (focus (first | (simp; done) | (simp; omega) | omega))) | ((with_reducible refine bl_later ?_ ?_); (focus (first | (simp; done) | (simp; omega) | omega))) | with_reducible refine bl_drew ?_ | with_reducible refine bl_drewN ?_ | ((with_reducible refine bl_step (by assumption) ?_ ?_); (focus (first | (simp; done) | (simp; omega) | omega)))))⟩

end Go.Proofs.Ytmjafclpeknpcaa
/- How the laws count what a list of rows, a list of writes, a disk holds. -/
namespace Go.Proofs.Ytmjafclpeknpcaa
open Go.ChangeShapes Go.WideShapes Go.ChangeAt Go.RowKit Go.Deep
set_option maxHeartbeats 800000
set_option maxRecDepth 100000
theorem c_szInt64S (ao : Option Addr) (cap n : Nat) (left : Int) (w : World) (h0 : 0 ≤ left) (h1 : left ≤ 1048576) (hn : n ≤ 9223372036854775807) :
    Calls Try.prog 127 #[.slice ao n cap, .int .i64 left] w fun e w' => e = .returned (.int .i64 (szB left n)) ∧ w = w' := by
  by_cases hlt : left - n < 0
  · have Hs := Lib.hid (szB_neg hlt)
    go_enter Try.func127, Try.ntmps127
    go_wp2
    go_ret
    exact ⟨by rw [Hs.out]; rfl, rfl⟩
  · have Hs := Lib.hid (szB_pos hlt)
    go_enter Try.func127, Try.ntmps127
    go_wp2
    go_ret
    exact ⟨by rw [Hs.out]; rfl, rfl⟩
theorem c_szInt64SS (ao : Option Addr) (cap : Nat) (K : List (List Int)) (left : Int) (w : World) (hK : RowsR w ao K) (h0 : 0 ≤ left) (h1 : left ≤ 1048576) :
    Calls Try.prog 72 #[.slice ao K.length cap, .int .i64 left] w fun e w' => e = .returned (.int .i64 (szB left (szRows K))) ∧ w = w' := by
  have hm := hK.1
  by_cases hlt : left - K.length < 0
  · have Hs := Lib.hid (szB_neg (left := left) (n := szRows K) (by unfold szRows; omega))
    go_enter Try.func72, Try.ntmps72
    go_wp2
    go_ret
    exact ⟨by rw [Hs.out]; rfl, rfl⟩
  · go_enter Try.func72, Try.ntmps72
    go_wp2
    go_loop [1, 5] (fun s i => ∃ q : Nat, q ≤ K.length ∧ i = .int .i64 q ∧ s = .int .i64 (left - K.length - lenSum (K.take q)) ∧ Hid (0 ≤ left - (K.length : Int) - lenSum (K.take q))) (fun _ i => K.length - (intOf i).toNat)
    case atStart => exact ⟨0, Nat.zero_le _, rfl, by simp [lenSum], by simp [lenSum, Hid]; omega⟩
    case round =>
      obtain ⟨q, hq, rfl, rfl, Hp⟩ := hrel
      by_cases hqt : q < K.length
      · have hp : (q : Int) < (K.length : Int) := by omega
        obtain ⟨b, off, rfl, hbl, hc⟩ := hK.at hqt
        obtain ⟨ai, ci, hcell, hr, hci⟩ := hc q hqt
        have hrm := hr.2.1
        have Ht := Lib.hid (lenSum_take hqt)
        have Hle := Lib.hid (lenSum_le K (q + 1))
        obtain ⟨s, hs⟩ : ∃ s : Int, left - (K.length : Int) - lenSum (K.take q) = s := ⟨_, rfl⟩
        have hs0 : 0 ≤ s := by have := Hp.out; omega
        have hs1 : s ≤ 1048576 := by omega
        have Hsq := Lib.hid hs
        rw [hs]
        clear hc hs Hp
        by_cases hneg : s - K[q].length < 0
        · have hz : szB s K[q].length = -1 := szB_neg hneg
          go_wp2_with fail
          refine (c_szInt64S ai ci _ s _ hs0 hs1 hrm).mono ?_
          rw [hz]
          rintro e w' ⟨rfl, rfl⟩
          have Hs := Lib.hid (szB_neg (left := left) (n := szRows K) (by have := Ht.out; have := Hle.out; have := Hsq.out; unfold szRows; omega))
          go_wp2_with fail
          go_ret
          exact ⟨by rw [Hs.out]; rfl, rfl⟩
        · have hz : szB s K[q].length = s - K[q].length := szB_pos hneg
          go_wp2_with fail
          refine (c_szInt64S ai ci _ s _ hs0 hs1 hrm).mono ?_
          rw [hz]
          rintro e w' ⟨rfl, rfl⟩
          go_wp2_with fail
          go_round
          case rel => exact ⟨q + 1, by omega, by go_num, by have := Ht.out; have := Hsq.out; congr 1; omega, by have := Ht.out; have := Hsq.out; show (0 : Int) ≤ _; omega⟩
          case measure => simp [intOf]; omega
      · obtain rfl : q = K.length := by omega
        have hp9 := Hp.out
        rw [List.take_length] at hp9
        have hz9 : ¬ left - (szRows K : Int) < 0 := by
          unfold szRows
          omega
        have Hs := Lib.hid (szB_pos hz9)
        clear hz9 hp9
        rw [List.take_length]
        go_wp2
        go_ret
        exact ⟨by rw [Hs.out]; exact congrArg (fun z => Ending.returned (Value.int .i64 z)) (by unfold szRows; omega), rfl⟩
theorem c_szWrite (a : Int) (ao : Option Addr) (cap n : Nat) (left : Int) (w : World) (h0 : 0 ≤ left) (h1 : left ≤ 1048576) (hn : n ≤ 9223372036854775807) :
    Calls Try.prog 128 #[.agg #[.int .i64 a, .slice ao n cap], .int .i64 left] w fun e w' => e = .returned (.int .i64 (szB left n)) ∧ Below w.heap.size w w' := by
  by_cases hlt : left - n < 0
  · have hs := szB_neg hlt
    go_enter Try.func128, Try.ntmps128
    go_wp2_with fail
    refine (c_szInt64S ao cap n left _ h0 h1 hn).mono ?_
    rw [hs]
    rintro e w' ⟨rfl, rfl⟩
    go_wp2_with fail
    go_ret
    exact ⟨by rw [hs]; rfl, (Below.refl _ _).alloc (Nat.le_refl _) _⟩
  · have hs := szB_pos hlt
    have hn0 : 0 ≤ left - n := by omega
    go_enter Try.func128, Try.ntmps128
    go_wp2_with fail
    refine (c_szInt64S ao cap n left _ h0 h1 hn).mono ?_
    rw [hs]
    rintro e w' ⟨rfl, rfl⟩
    have hn2 : ¬ left - (n : Int) < 0 := by omega
    go_wp2_with fail
    go_ret
    exact ⟨by rw [hs]; rfl, (Below.refl _ _).alloc (Nat.le_refl _) _⟩
theorem c_szWriteS (ao : Option Addr) (cap : Nat) (K : List (Int × List Int)) (left : Int) (w : World) (hK : WritesR w ao K) (h0 : 0 ≤ left) (h1 : left ≤ 1048576) :
    Calls Try.prog 73 #[.slice ao K.length cap, .int .i64 left] w fun e w' => e = .returned (.int .i64 (szB left (szW K))) ∧ Below w.heap.size w w' := by
  have hm := hK.1
  by_cases hlt : left - K.length < 0
  · have Hs := Lib.hid (szB_neg (left := left) (n := szW K) (by unfold szW; omega))
    go_enter Try.func73, Try.ntmps73
    go_wp2
    go_ret
    exact ⟨by rw [Hs.out]; rfl, Below.refl _ _⟩
  · go_enter Try.func73, Try.ntmps73
    go_wp2
    go_loopw [1, 5] (fun s i wr => ∃ q : Nat, q ≤ K.length ∧ i = .int .i64 q ∧ s = .int .i64 (left - K.length - lenSum (wrows (K.take q))) ∧ Hid (0 ≤ left - (K.length : Int) - lenSum (wrows (K.take q))) ∧ Below w.heap.size w wr) (fun _ i _ => K.length - (intOf i).toNat)
    case atStart => exact ⟨0, Nat.zero_le _, rfl, by simp [lenSum, wrows], by simp [lenSum, wrows, Hid]; omega, Below.refl _ _⟩
    case round =>
      obtain ⟨q, hq, rfl, rfl, Hp, hbel⟩ := hrel
      by_cases hqt : q < K.length
      · have hp : (q : Int) < (K.length : Int) := by omega
        obtain ⟨b, off, rfl, hbl, hc⟩ := (hK.below hbel).at hqt
        obtain ⟨hia, hcell0, ai, ci, hcell, hr, hci⟩ := hc q hqt
        have hrm := hr.2.1
        have ht : lenSum (wrows (K.take (q + 1))) = lenSum (wrows (K.take q)) + K[q].2.length := by
          have h7 := szW_take hqt
          unfold szW at h7
          simp only [List.length_take] at h7
          omega
        have hle : lenSum (wrows (K.take (q + 1))) ≤ lenSum (wrows K) := by
          have h7 := lenSum_le (wrows K) (q + 1)
          rwa [wrows, ← List.map_take] at h7
        have Ht := Lib.hid ht
        have Hle := Lib.hid hle
        obtain ⟨s, hs⟩ : ∃ s : Int, left - (K.length : Int) - lenSum (wrows (K.take q)) = s := ⟨_, rfl⟩
        have hs0 : 0 ≤ s := by have := Hp.out; omega
        have hs1 : s ≤ 1048576 := by omega
        have Hsq := Lib.hid hs
        rw [hs]
        clear hc hs Hp ht hle
        generalize hKq : K[q] = d at *
        obtain ⟨a, r⟩ := d
        simp only at *
        by_cases hneg : s - r.length < 0
        · have hz : szB s r.length = -1 := szB_neg hneg
          go_wp2_with fail
          refine (c_szWrite a ai ci _ s _ hs0 hs1 hrm).mono ?_
          rw [hz]
          rintro e w2 ⟨rfl, hb2⟩
          have Hs := Lib.hid (szB_neg (left := left) (n := szW K) (by have := Ht.out; have := Hle.out; have := Hsq.out; unfold szW; omega))
          go_wp2_with fail
          go_ret
          exact ⟨by rw [Hs.out]; rfl, bl_step hb2 hbel.size hbel⟩
        · have hz : szB s r.length = s - r.length := szB_pos hneg
          go_wp2_with fail
          refine (c_szWrite a ai ci _ s _ hs0 hs1 hrm).mono ?_
          rw [hz]
          rintro e w2 ⟨rfl, hb2⟩
          go_wp2_with fail
          go_roundw
          case rel => exact ⟨q + 1, by omega, by go_num, by have := Ht.out; have := Hsq.out; congr 1; omega, by have := Ht.out; have := Hsq.out; show (0 : Int) ≤ _; omega, bl_step hb2 hbel.size hbel⟩
          case measure => simp [intOf]; omega
      · obtain rfl : q = K.length := by omega
        have hp9 := Hp.out
        rw [List.take_length] at hp9
        have hz9 : ¬ left - (szW K : Int) < 0 := by
          unfold szW
          omega
        have Hs := Lib.hid (szB_pos hz9)
        clear hz9 hp9
        rw [List.take_length]
        go_wp2
        go_ret
        exact ⟨by rw [Hs.out]; exact congrArg (fun z => Ending.returned (Value.int .i64 z)) (by unfold szW; omega), hbel⟩
theorem szB_range {left : Int} {n : Nat} (h1 : left ≤ 1048576) (h : ¬ left - (n : Int) < 0) : 0 ≤ left - (n : Int) ∧ left - (n : Int) ≤ 1048576 := by omega
/-- how much a disk is counted -/
def szD (d : List (List Int) × List (Int × List Int)) : Nat := szRows d.1 + szW d.2
theorem c_szDisk (ak aw : Option Addr) (ck cw : Nat) (d : List (List Int) × List (Int × List Int)) (left : Int) (w : World) (hK : RowsR w ak d.1) (hW : WritesR w aw d.2) (h0 : 0 ≤ left) (h1 : left ≤ 1048576) :
    Calls Try.prog 29 #[.agg #[.slice ak d.1.length ck, .slice aw d.2.length cw], .int .i64 left] w fun e w' => e = .returned (.int .i64 (szB left (szD d))) ∧ Below w.heap.size w w' := by
  have hb0 : Below w.heap.size w (w.alloc (.cells #[.slice ak d.1.length ck, .slice aw d.2.length cw] 25)) := (Below.refl _ _).alloc (Nat.le_refl _) _
  have HK := Lib.hid (hK.below hb0)
  have HW := Lib.hid (hW.below hb0)
  have hm := hK.1
  have hm2 := hW.1
  clear hK hW
  by_cases hlt : left - (szRows d.1 : Int) < 0
  · have hs := szB_neg hlt
    have Hf := Lib.hid (szB_neg (left := left) (n := szD d) (by unfold szD; omega))
    clear hlt
    go_enter Try.func29, Try.ntmps29
    go_wp2_with fail
    refine (c_szInt64SS ak ck d.1 left _ HK.out h0 h1).mono ?_
    rw [hs]
    rintro e w' ⟨rfl, rfl⟩
    go_wp2_with fail
    go_ret
    exact ⟨by rw [Hf.out]; rfl, hb0⟩
  · have hs := szB_pos hlt
    obtain ⟨r0, r1⟩ := szB_range h1 hlt
    obtain ⟨t, ht⟩ : ∃ t : Int, left - (szRows d.1 : Int) = t := ⟨_, rfl⟩
    rw [ht] at hs r0 r1
    have Ht := Lib.hid ht
    clear hlt ht
    have hn2 : ¬ t < 0 := by omega
    by_cases hlt2 : t - (szW d.2 : Int) < 0
    · have hs2 := szB_neg hlt2
      have Hf := Lib.hid (szB_neg (left := left) (n := szD d) (by have := Ht.out; unfold szD; omega))
      clear hlt2
      go_enter Try.func29, Try.ntmps29
      go_wp2_with fail
      refine (c_szInt64SS ak ck d.1 left _ HK.out h0 h1).mono ?_
      rw [hs]
      rintro e w' ⟨rfl, rfl⟩
      go_wp2_with fail
      refine (c_szWriteS aw cw d.2 t _ HW.out r0 r1).mono ?_
      rw [hs2]
      rintro e w2 ⟨rfl, hb2⟩
      go_wp2_with fail
      go_ret
      exact ⟨by rw [Hf.out]; rfl, bl_step hb2 hb0.size hb0⟩
    · have hs2 := szB_pos hlt2
      have Hf := Lib.hid (szB_pos (left := left) (n := szD d) (by have := Ht.out; unfold szD; omega))
      have hn3 : ¬ t - (szW d.2 : Int) < 0 := hlt2
      clear hlt2
      go_enter Try.func29, Try.ntmps29
      go_wp2_with fail
      refine (c_szInt64SS ak ck d.1 left _ HK.out h0 h1).mono ?_
      rw [hs]
      rintro e w' ⟨rfl, rfl⟩
      go_wp2_with fail
      refine (c_szWriteS aw cw d.2 t _ HW.out r0 r1).mono ?_
      rw [hs2]
      rintro e w2 ⟨rfl, hb2⟩
      go_wp2_with fail
      go_ret
      exact ⟨by rw [Hf.out]; exact congrArg (fun z => Ending.returned (Value.int .i64 z)) (by have := Ht.out; unfold szD; omega), bl_step hb2 hb0.size hb0⟩
theorem c_szTwo (ak aw bk bw : Option Addr) (ck cw dk dw : Nat) (d e : List (List Int) × List (Int × List Int)) (left : Int) (w : World) (hK : RowsR w ak d.1 ∧ WritesR w aw d.2) (hW : RowsR w bk e.1 ∧ WritesR w bw e.2) (h0 : 0 ≤ left) (h1 : left ≤ 1048576) :
    Calls Try.prog 7 #[.agg #[.slice ak d.1.length ck, .slice aw d.2.length cw, .slice bk e.1.length dk, .slice bw e.2.length dw], .int .i64 left] w fun en w' => en = .returned (.int .i64 (szB left (szD d + szD e))) ∧ Below w.heap.size w w' := by
  have hb0 : Below w.heap.size w (w.alloc (.cells #[.slice ak d.1.length ck, .slice aw d.2.length cw, .slice bk e.1.length dk, .slice bw e.2.length dw] 27)) := (Below.refl _ _).alloc (Nat.le_refl _) _
  have HK : Hid (∀ W, Below w.heap.size w W → RowsR W ak d.1 ∧ WritesR W aw d.2) := fun W hb => ⟨hK.1.below hb, hK.2.below hb⟩
  have HW : Hid (∀ W, Below w.heap.size w W → RowsR W bk e.1 ∧ WritesR W bw e.2) := fun W hb => ⟨hW.1.below hb, hW.2.below hb⟩
  clear hK hW
  by_cases hlt : left - (szD d : Int) < 0
  · have hs := szB_neg hlt
    have Hf := Lib.hid (szB_neg (left := left) (n := szD d + szD e) (by omega))
    clear hlt
    go_enter Try.func7, Try.ntmps7
    go_wp2_with fail
    refine (c_szDisk ak aw ck cw d left _ (HK.out _ hb0).1 (HK.out _ hb0).2 h0 h1).mono ?_
    rw [hs]
    rintro en w1 ⟨rfl, hb1⟩
    obtain ⟨hc, hf, hsz⟩ := bcell hb1
    have hz := hb1.size
    simp only [World.size_alloc] at hz
    go_wp2_with fail
    go_ret
    exact ⟨by rw [Hf.out]; rfl, by (repeat (first | with_reducible exact Below.refl _ _ | ((with_reducible refine bl_alloc ?_ ?_); (focus (first | (simp; done) | (simp; omega) | omega))) | ((with_reducible refine bl_set ?_ ?_); (focus (first | (simp; done) | (simp; omega) | omega))) | ((with_reducible refine bl_later ?_ ?_); (focus (first | (simp; done) | (simp; omega) | omega))) | with_reducible refine bl_drew ?_ | with_reducible refine bl_drewN ?_ | ((with_reducible refine bl_step (by assumption) ?_ ?_); (focus (first | (simp; done) | (simp; omega) | omega)))))⟩
  · have hs := szB_pos hlt
    obtain ⟨r0, r1⟩ := szB_range h1 hlt
    obtain ⟨t, ht⟩ : ∃ t : Int, left - (szD d : Int) = t := ⟨_, rfl⟩
    rw [ht] at hs r0 r1
    have Ht := Lib.hid ht
    clear hlt ht
    have hn2 : ¬ t < 0 := by omega
    by_cases hlt2 : t - (szD e : Int) < 0
    · have hs2 := szB_neg hlt2
      have Hf := Lib.hid (szB_neg (left := left) (n := szD d + szD e) (by have := Ht.out; omega))
      clear hlt2
      go_enter Try.func7, Try.ntmps7
      go_wp2_with fail
      refine (c_szDisk ak aw ck cw d left _ (HK.out _ hb0).1 (HK.out _ hb0).2 h0 h1).mono ?_
      rw [hs]
      rintro en w1 ⟨rfl, hb1⟩
      obtain ⟨hc, hf, hsz⟩ := bcell hb1
      have hz := hb1.size
      simp only [World.size_alloc] at hz
      go_wp2_with fail
      refine (c_szDisk bk bw dk dw e t _ (HW.out _ (by (repeat (first | with_reducible exact Below.refl _ _ | ((with_reducible refine bl_alloc ?_ ?_); (focus (first | (simp; done) | (simp; omega) | omega))) | ((with_reducible refine bl_set ?_ ?_); (focus (first | (simp; done) | (simp; omega) | omega))) | ((with_reducible refine bl_later ?_ ?_); (focus (first | (simp; done) | (simp; omega) | omega))) | with_reducible refine bl_drew ?_ | with_reducible refine bl_drewN ?_ | ((with_reducible refine bl_step (by assumption) ?_ ?_); (focus (first | (simp; done) | (simp; omega) | omega))))))).1 (HW.out _ (by (repeat (first | with_reducible exact Below.refl _ _ | ((with_reducible refine bl_alloc ?_ ?_); (focus (first | (simp; done) | (simp; omega) | omega))) | ((with_reducible refine bl_set ?_ ?_); (focus (first | (simp; done) | (simp; omega) | omega))) | ((with_reducible refine bl_later ?_ ?_); (focus (first | (simp; done) | (simp; omega) | omega))) | with_reducible refine bl_drew ?_ | with_reducible refine bl_drewN ?_ | ((with_reducible refine bl_step (by assumption) ?_ ?_); (focus (first | (simp; done) | (simp; omega) | omega))))))).2 r0 r1).mono ?_
      rw [hs2]
      rintro en w2 ⟨rfl, hb2⟩
      go_wp2_with fail
      go_ret
      exact ⟨by rw [Hf.out]; rfl, by (repeat (first | with_reducible exact Below.refl _ _ | ((with_reducible refine bl_alloc ?_ ?_); (focus (first | (simp; done) | (simp; omega) | omega))) | ((with_reducible refine bl_set ?_ ?_); (focus (first | (simp; done) | (simp; omega) | omega))) | ((with_reducible refine bl_later ?_ ?_); (focus (first | (simp; done) | (simp; omega) | omega))) | with_reducible refine bl_drew ?_ | with_reducible refine bl_drewN ?_ | ((with_reducible refine bl_step (by assumption) ?_ ?_); (focus (first | (simp; done) | (simp; omega) | omega)))))⟩
    · have hs2 := szB_pos hlt2
      have Hf := Lib.hid (szB_pos (left := left) (n := szD d + szD e) (by have := Ht.out; omega))
      have hn3 : ¬ t - (szD e : Int) < 0 := hlt2
      clear hlt2
      go_enter Try.func7, Try.ntmps7
      go_wp2_with fail
      refine (c_szDisk ak aw ck cw d left _ (HK.out _ hb0).1 (HK.out _ hb0).2 h0 h1).mono ?_
      rw [hs]
      rintro en w1 ⟨rfl, hb1⟩
      obtain ⟨hc, hf, hsz⟩ := bcell hb1
      have hz := hb1.size
      simp only [World.size_alloc] at hz
      go_wp2_with fail
      refine (c_szDisk bk bw dk dw e t _ (HW.out _ (by (repeat (first | with_reducible exact Below.refl _ _ | ((with_reducible refine bl_alloc ?_ ?_); (focus (first | (simp; done) | (simp; omega) | omega))) | ((with_reducible refine bl_set ?_ ?_); (focus (first | (simp; done) | (simp; omega) | omega))) | ((with_reducible refine bl_later ?_ ?_); (focus (first | (simp; done) | (simp; omega) | omega))) | with_reducible refine bl_drew ?_ | with_reducible refine bl_drewN ?_ | ((with_reducible refine bl_step (by assumption) ?_ ?_); (focus (first | (simp; done) | (simp; omega) | omega))))))).1 (HW.out _ (by (repeat (first | with_reducible exact Below.refl _ _ | ((with_reducible refine bl_alloc ?_ ?_); (focus (first | (simp; done) | (simp; omega) | omega))) | ((with_reducible refine bl_set ?_ ?_); (focus (first | (simp; done) | (simp; omega) | omega))) | ((with_reducible refine bl_later ?_ ?_); (focus (first | (simp; done) | (simp; omega) | omega))) | with_reducible refine bl_drew ?_ | with_reducible refine bl_drewN ?_ | ((with_reducible refine bl_step (by assumption) ?_ ?_); (focus (first | (simp; done) | (simp; omega) | omega))))))).2 r0 r1).mono ?_
      rw [hs2]
      rintro en w2 ⟨rfl, hb2⟩
      go_wp2_with fail
      go_ret
      exact ⟨by rw [Hf.out]; exact congrArg (fun z => Ending.returned (Value.int .i64 z)) (by have := Ht.out; omega), by (repeat (first | with_reducible exact Below.refl _ _ | ((with_reducible refine bl_alloc ?_ ?_); (focus (first | (simp; done) | (simp; omega) | omega))) | ((with_reducible refine bl_set ?_ ?_); (focus (first | (simp; done) | (simp; omega) | omega))) | ((with_reducible refine bl_later ?_ ?_); (focus (first | (simp; done) | (simp; omega) | omega))) | with_reducible refine bl_drew ?_ | with_reducible refine bl_drewN ?_ | ((with_reducible refine bl_step (by assumption) ?_ ?_); (focus (first | (simp; done) | (simp; omega) | omega)))))⟩
end Go.Proofs.Ytmjafclpeknpcaa
/- What the laws do to a pair of disks of its own. -/
namespace Go.Proofs.Ytmjafclpeknpcaa
open Go.ChangeShapes Go.WideShapes Go.ChangeAt Go.RowKit Go.Deep
theorem Out.kp {lo hi lo' hi' : Nat} {w w' : World} (h : Out lo hi w w') (hd : hi' ≤ lo ∨ hi ≤ lo') (hs : hi' ≤ w.heap.size) : Kp lo' hi' w w' := ⟨h.size, fun k h1 h2 => h.block k (by omega) (by omega)⟩
theorem Bx.out {w w' : World} {b lo hi : Nat} {L : List Value} (h : Bx w b L) (ho : Out lo hi w w') (hd : b < lo ∨ hi ≤ b) : Bx w' b L := h.kp (ho.kp (by omega) h.1)
section
variable {w : World} {lo hi lo2 hi2 : Nat} {d e : List (List Int) × List (Int × List Int)} {a1 a2 a3 a4 b1 b2 b3 b4 : Option Addr} {c1 c2 c3 c4 k1 k2 k3 k4 : Nat}
theorem Sp.two (h : Sp twoO w lo hi (d, e) [.slice a1 d.1.length c1, .slice a2 d.2.length c2, .slice a3 e.1.length c3, .slice a4 e.2.length c4]) : DiskR w a1 a2 d ∧ DiskR w a3 a4 e :=
  ⟨(Sp.fst (va := [.slice a1 d.1.length c1, .slice a2 d.2.length c2]) (vb := [.slice a3 e.1.length c3, .slice a4 e.2.length c4]) rfl h).diskR, (Sp.snd (va := [.slice a1 d.1.length c1, .slice a2 d.2.length c2]) (vb := [.slice a3 e.1.length c3, .slice a4 e.2.length c4]) rfl h).diskR⟩
theorem c_eqTwo_o (h : Sp twoO w lo hi (d, e) [.slice a1 d.1.length c1, .slice a2 d.2.length c2, .slice a3 e.1.length c3, .slice a4 e.2.length c4]) (h2 : Sp twoO w lo2 hi2 (d, e) [.slice b1 d.1.length k1, .slice b2 d.2.length k2, .slice b3 e.1.length k3, .slice b4 e.2.length k4]) :
    Calls Try.prog 12 #[.agg #[.slice a1 d.1.length c1, .slice a2 d.2.length c2, .slice a3 e.1.length c3, .slice a4 e.2.length c4], .agg #[.slice b1 d.1.length k1, .slice b2 d.2.length k2, .slice b3 e.1.length k3, .slice b4 e.2.length k4]] w fun en w' => en = .returned (.bool true) ∧ Below w.heap.size w w' :=
  c_eqTwo_same a1 a2 a3 a4 b1 b2 b3 b4 c1 c2 c3 c4 k1 k2 k3 k4 d e w h.two.1 h.two.2 h2.two.1 h2.two.2
theorem c_markTwo_o (h : Sp twoO w lo hi (d, e) [.slice a1 d.1.length c1, .slice a2 d.2.length c2, .slice a3 e.1.length c3, .slice a4 e.2.length c4]) {k : Int} (hk : 0 ≤ k) (hk2 : k + (mkSum d + mkSum e : Nat) ≤ 1099511627776) (hI : DiskIn d ∧ DiskIn e) :
    Calls Try.prog 13 #[.agg #[.slice a1 d.1.length c1, .slice a2 d.2.length c2, .slice a3 e.1.length c3, .slice a4 e.2.length c4], .int .i64 k] w fun en w' => en = .returned (.int .i64 (k + (mkSum d + mkSum e : Nat))) ∧ Sp twoO w' lo hi (mkDisk k d, mkDisk (k + mkSum d) e) [.slice a1 d.1.length c1, .slice a2 d.2.length c2, .slice a3 e.1.length c3, .slice a4 e.2.length c4] ∧ Out lo hi w w' := by
  obtain ⟨F, h1, h2, h3, h4⟩ := h
  refine (c_markTwo a1 a2 a3 a4 c1 c2 c3 c4 d e F k w h1 h2 h4 hk hk2 hI.1 hI.2).mono ?_
  rintro en w' ⟨rfl, m1, m2, m3⟩
  exact ⟨rfl, ⟨F, m1, h2, h3, m2⟩, m3.out h3⟩
theorem len_mkDisk (k : Int) (d : List (List Int) × List (Int × List Int)) : (mkDisk k d).1.length = d.1.length ∧ (mkDisk k d).2.length = d.2.length := ⟨length_mkRows _ _, length_mkWrites _ _⟩
theorem c_heldTwo_o {k : Int} (h : Sp twoO w lo hi (mkDisk k d, mkDisk (k + mkSum d) e) [.slice a1 d.1.length c1, .slice a2 d.2.length c2, .slice a3 e.1.length c3, .slice a4 e.2.length c4]) (hk : 0 ≤ k) (hk2 : k + (mkSum d + mkSum e : Nat) ≤ 1099511627776) (hI : DiskIn d ∧ DiskIn e) :
    Calls Try.prog 14 #[.agg #[.slice a1 d.1.length c1, .slice a2 d.2.length c2, .slice a3 e.1.length c3, .slice a4 e.2.length c4], .int .i64 k] w fun en w' => en = .returned (.int .i64 (k + (mkSum d + mkSum e : Nat))) ∧ Below w.heap.size w w' := by
  have e1 := len_mkDisk k d
  have e2 := len_mkDisk (k + mkSum d) e
  have h' := h
  rw [← e1.1, ← e1.2, ← e2.1, ← e2.2] at h'
  exact c_heldTwo a1 a2 a3 a4 c1 c2 c3 c4 d e k w h'.two.1 h'.two.2 hk hk2 hI.1 hI.2
theorem lenSum_mem {K : List (List Int)} {r : List Int} (h : r ∈ K) : r.length ≤ lenSum K := by
  induction K with
  | nil => simp at h
  | cons x K ih =>
    rw [lenSum_cons]
    rcases List.mem_cons.1 h with rfl | h
    · omega
    · have := ih h; omega
theorem szD_in {d : List (List Int) × List (Int × List Int)} (h : szD d ≤ 1048576) : DiskIn d := by
  have h1 : d.1.length + lenSum d.1 + (d.2.length + lenSum (wrows d.2)) ≤ 1048576 := h
  refine ⟨by omega, by omega, by omega, fun k hk => ?_⟩
  have := lenSum_mem (K := wrows d.2) (r := d.2[k].2) (List.mem_map.2 ⟨d.2[k], List.getElem_mem hk, rfl⟩)
  omega
theorem mkSum_le {d : List (List Int) × List (Int × List Int)} (h : szD d ≤ 1048576) : mkSum d ≤ 1048576 := by
  have h1 : d.1.length + lenSum d.1 + szW d.2 ≤ 1048576 := h
  unfold mkSum; omega
/-- what an operation makes of a disk stays small -/
def Small (d : List (List Int) × List (Int × List Int)) : Prop := DiskIn d ∧ mkSum d ≤ 2097152
theorem small_sz {d : List (List Int) × List (Int × List Int)} (h : szD d ≤ 1048576) : Small d := ⟨szD_in h, by have := mkSum_le h; omega⟩
theorem lenSum_bound {K : List (List Int)} {m : Nat} (h : ∀ r ∈ K, r.length ≤ m) : lenSum K ≤ K.length * m := by
  induction K with
  | nil => simp [lenSum]
  | cons r K ih =>
    have h1 := h r (by simp)
    have h2 := ih (fun x hx => h x (by simp [hx]))
    rw [lenSum_cons, List.length_cons, Nat.succ_mul]
    omega
theorem small_of {d : List (List Int) × List (Int × List Int)} (h1 : d.1.length ≤ 40) (h2 : ∀ r ∈ d.1, r.length ≤ 48) (h3 : d.2.length ≤ 60) (h4 : ∀ r ∈ d.2, r.2.length ≤ 48) : Small d := by
  have k1 := lenSum_bound h2
  have k2 := lenSum_bound (K := wrows d.2) (m := 48) (fun r hr => by
    obtain ⟨x, hx, rfl⟩ := List.mem_map.1 hr
    exact h4 x hx)
  have k3 : (wrows d.2).length = d.2.length := by simp [wrows]
  rw [k3] at k2
  have k4 : d.1.length * 48 ≤ 40 * 48 := Nat.mul_le_mul_right _ h1
  have k5 : d.2.length * 48 ≤ 60 * 48 := Nat.mul_le_mul_right _ h3
  refine ⟨⟨by omega, by omega, by omega, fun k hk => ?_⟩, ?_⟩
  · have := h4 _ (List.getElem_mem hk); omega
  · have e : szW d.2 = d.2.length + lenSum (wrows d.2) := rfl
    unfold mkSum; rw [e]; omega
theorem diskOk_small {d : List (List Int) × List (Int × List Int)} (h : diskOk d = true) : d.1.length ≤ 40 ∧ (∀ r ∈ d.1, r.length ≤ 48) ∧ d.2.length ≤ 60 ∧ ∀ r ∈ d.2, r.2.length ≤ 48 := by
  unfold diskOk at h
  simp only [Bool.and_eq_true, decide_eq_true_eq, List.all_eq_true] at h
  obtain ⟨h1, h2, h3, h4, h5⟩ := h
  refine ⟨h2, fun r hr => ?_, h3, fun r hr => ?_⟩
  · have := h4 r hr
    unfold rowOk at this
    simp only [Bool.and_eq_true, decide_eq_true_eq] at this
    exact this.1
  · have := h5 r hr
    unfold wrOk rowOk at this
    simp only [Bool.and_eq_true, decide_eq_true_eq] at this
    exact this.2.1
end
end Go.Proofs.Ytmjafclpeknpcaa
