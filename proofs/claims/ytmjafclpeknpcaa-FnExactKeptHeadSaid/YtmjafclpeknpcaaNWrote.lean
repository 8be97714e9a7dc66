/- Walks of functions of the program, printed by a program of the prover. -/
import Derived.Test.YtmjafclpeknpcaaNTwoCopy
import Derived.Test.YtmjafclpeknpcaaNSum
import Derived.WalkKit
import Derived.WalkSpells
import Derived.Deep.QuietTactic
import Derived.BigQuiet
import Derived.Deep.Light
import Derived.Lib.Hide
import Derived.IntWalk
namespace Go.Proofs.Ytmjafclpeknpcaa
open Go.ChangeShapes Go.WideShapes Go.ChangeAt Go.RowKit Go.Deep
set_option maxHeartbeats 1600000
set_option maxRecDepth 100000

def canWrite (d : List (List Int) × List (Int × List Int)) (x : Int) (r : List Int) : Bool := inB x 0 ((d.1.length : Int) - 1) && (rowOk r && decide (d.2.length < 60))
theorem diskOk_B {d : List (List Int) × List (Int × List Int)} (h : diskOk d = true) : DiskB d := by
  unfold diskOk at h
  simp only [Bool.and_eq_true, decide_eq_true_eq, List.all_eq_true] at h
  obtain ⟨h1, h2, h3, h4, h5⟩ := h
  refine ⟨by omega, fun k hk => ?_, by omega, fun k hk => ?_⟩
  · have := rowOk_len (h4 _ (List.getElem_mem hk)); omega
  · have := h5 _ (List.getElem_mem hk)
    unfold wrOk at this
    simp only [Bool.and_eq_true] at this
    have := rowOk_len this.2; omega
theorem diskOk_w {d : List (List Int) × List (Int × List Int)} (h : diskOk d = true) : d.2.length ≤ 60 := by
  unfold diskOk at h
  simp only [Bool.and_eq_true, decide_eq_true_eq] at h
  exact h.2.2.1
theorem diskOk_k {d : List (List Int) × List (Int × List Int)} (h : diskOk d = true) : 1 ≤ d.1.length ∧ d.1.length ≤ 40 := by
  unfold diskOk at h
  simp only [Bool.and_eq_true, decide_eq_true_eq] at h
  exact ⟨h.1, h.2.1⟩

theorem c_spec_Wrote_n (ak aw : Option Addr) (ck cw : Nat) (d : List (List Int) × List (Int × List Int)) (x : Int) (ar : Option Addr) (cr : Nat) (r : List Int) (w : World) (h : DiskR w ak aw d) (hr : IntsR w ar r) (hO : diskOk d = true) (hC : canWrite d x r = false) :
    Calls Try.prog 82 #[.agg #[.slice ak d.1.length ck, .slice aw d.2.length cw], .int .i64 x, .slice ar r.length cr] w fun en w' => ∃ a1 c1 a2 c2, en = .returned (.tuple #[.agg #[.slice a1 d.1.length c1, .slice a2 d.2.length c2], .bool false]) ∧ DiskOwn w' w.heap.size w'.heap.size d a1 c1 a2 c2 ∧ Below w.heap.size w w' := by
  have hI := diskOk_B hO
  have hk := diskOk_k hO
  have hw60 := diskOk_w hO
  have HO := Lib.hid hO
  clear hO
  have HD : Hid (∀ V, Below w.heap.size w V → DiskR V ak aw d) := fun V hb => h.below hb
  have HRo : Hid (∀ V, Below w.heap.size w V → IntsR V ar r) := fun V hb => hr.below hb
  clear h hr
  cases hin : inB x 0 ((d.1.length : Int) - 1)
  · clear hC
    go_enter Try.func82, Try.ntmps82
    go_wp2_with fail
    refine (c_spec_DiskOk ak aw ck cw d.1 d.2 _ (HD.out _ (by (repeat (first | with_reducible exact Below.refl _ _ | ((with_reducible refine bl_alloc ?_ ?_); (focus (first | (simp; done) | (simp; omega) | omega))) | ((with_reducible refine bl_set ?_ ?_); (focus (first | (simp; done) | (simp; omega) | omega))) | ((with_reducible refine bl_later ?_ ?_); (focus (first | (simp; done) | (simp; omega) | omega))) | with_reducible refine bl_drew ?_ | with_reducible refine bl_drewN ?_ | ((with_reducible refine bl_step (by assumption) ?_ ?_); (focus (first | (simp; done) | (simp; omega) | omega)))))))).mono ?_
    rw [show (d.1, d.2) = d from rfl, HO.out]
    rintro en w2 ⟨rfl, hb2⟩
    have hz2 := hb2.size
    simp only [World.size_alloc] at hz2
    have hca0 := fun (o : Nat) => hb2.cell (p := ⟨w.heap.size, o, none⟩) (by (first | (simp; done) | (simp; omega) | omega))
    have hfa0 := fun (o : Nat) => hb2.frozen (p := ⟨w.heap.size, o, none⟩) (by (first | (simp; done) | (simp; omega) | omega))
    have hca1 := fun (o : Nat) => hb2.cell (p := ⟨w.heap.size + 1, o, none⟩) (by (first | (simp; done) | (simp; omega) | omega))
    have hfa1 := fun (o : Nat) => hb2.frozen (p := ⟨w.heap.size + 1, o, none⟩) (by (first | (simp; done) | (simp; omega) | omega))
    go_wp2_with fail
    refine (c_spec_l3Copy ak aw ck cw d _ (HD.out _ (by (repeat (first | with_reducible exact Below.refl _ _ | ((with_reducible refine bl_alloc ?_ ?_); (focus (first | (simp; done) | (simp; omega) | omega))) | ((with_reducible refine bl_set ?_ ?_); (focus (first | (simp; done) | (simp; omega) | omega))) | ((with_reducible refine bl_later ?_ ?_); (focus (first | (simp; done) | (simp; omega) | omega))) | with_reducible refine bl_drew ?_ | with_reducible refine bl_drewN ?_ | ((with_reducible refine bl_step (by assumption) ?_ ?_); (focus (first | (simp; done) | (simp; omega) | omega))))))) hI).mono ?_
    rintro en w3 ⟨a1, c1, a2, c2, rfl, hs3, hb3⟩
    have hz3 := hb3.size
    have Hs3 := Lib.hid hs3
    clear hs3
    have hl0 : w.heap.size < w3.heap.size := by omega
    have hl1 : w.heap.size + 1 < w3.heap.size := by omega
    have hcb0 := fun (o : Nat) => hb3.cell (p := ⟨w.heap.size, o, none⟩) (by (first | (simp; done) | (simp; omega) | omega))
    have hfb0 := fun (o : Nat) => hb3.frozen (p := ⟨w.heap.size, o, none⟩) (by (first | (simp; done) | (simp; omega) | omega))
    have hcb1 := fun (o : Nat) => hb3.cell (p := ⟨w.heap.size + 1, o, none⟩) (by (first | (simp; done) | (simp; omega) | omega))
    have hfb1 := fun (o : Nat) => hb3.frozen (p := ⟨w.heap.size + 1, o, none⟩) (by (first | (simp; done) | (simp; omega) | omega))
    go_wp2_with fail
    refine (c_spec_hasAt _ _ _ _ _ _ x _ (by omega)).mono ?_
    rw [hin]
    rintro en w4 ⟨rfl, hb4⟩
    have hz4 := hb4.size
    simp only [World.size_alloc] at hz4
    have hcc0 := fun (o : Nat) => hb4.cell (p := ⟨w.heap.size, o, none⟩) (by (first | (simp; done) | (simp; omega) | omega))
    have hfc0 := fun (o : Nat) => hb4.frozen (p := ⟨w.heap.size, o, none⟩) (by (first | (simp; done) | (simp; omega) | omega))
    have hcc1 := fun (o : Nat) => hb4.cell (p := ⟨w.heap.size + 1, o, none⟩) (by (first | (simp; done) | (simp; omega) | omega))
    have hfc1 := fun (o : Nat) => hb4.frozen (p := ⟨w.heap.size + 1, o, none⟩) (by (first | (simp; done) | (simp; omega) | omega))
    have hcc2 := fun (o : Nat) => hb4.cell (p := ⟨w3.heap.size, o, none⟩) (by (first | (simp; done) | (simp; omega) | omega))
    have hfc2 := fun (o : Nat) => hb4.frozen (p := ⟨w3.heap.size, o, none⟩) (by (first | (simp; done) | (simp; omega) | omega))
    have hl0 : w.heap.size < w4.heap.size := by omega
    have hl1 : w.heap.size + 1 < w4.heap.size := by omega
    have hl2 : w3.heap.size < w4.heap.size := by omega
    go_wp2_with fail
    refine bodyPost_ret (v := .tuple #[.agg #[.slice a1 d.1.length c1, .slice a2 d.2.length c2], .bool false]) (by simp [results, Try.results82, go_sem, *]) rfl ⟨a1, c1, a2, c2, rfl, ?_, ?_⟩
    · exact (Hs3.out.kp (by (repeat (first | with_reducible exact kp_refl | ((with_reducible refine kp_alloc ?_ ?_); (focus (first | (simp; done) | (simp; omega) | omega))) | ((with_reducible refine kp_set ?_ ?_); (focus (first | (simp; done) | (simp; omega) | omega))) | with_reducible refine kp_drew ?_ | with_reducible refine kp_drewN ?_ | ((with_reducible refine kp_step (by assumption) ?_ ?_); (focus (first | (simp; done) | (simp; omega) | omega))))))).wide (by omega) (by (first | (simp; done) | (simp; omega) | omega))
    · (repeat (first | with_reducible exact Below.refl _ _ | ((with_reducible refine bl_alloc ?_ ?_); (focus (first | (simp; done) | (simp; omega) | omega))) | ((with_reducible refine bl_set ?_ ?_); (focus (first | (simp; done) | (simp; omega) | omega))) | ((with_reducible refine bl_later ?_ ?_); (focus (first | (simp; done) | (simp; omega) | omega))) | with_reducible refine bl_drew ?_ | with_reducible refine bl_drewN ?_ | ((with_reducible refine bl_step (by assumption) ?_ ?_); (focus (first | (simp; done) | (simp; omega) | omega)))))
  · cases hro : rowOk r
    · clear hC
      go_enter Try.func82, Try.ntmps82
      go_wp2_with fail
      refine (c_spec_DiskOk ak aw ck cw d.1 d.2 _ (HD.out _ (by (repeat (first | with_reducible exact Below.refl _ _ | ((with_reducible refine bl_alloc ?_ ?_); (focus (first | (simp; done) | (simp; omega) | omega))) | ((with_reducible refine bl_set ?_ ?_); (focus (first | (simp; done) | (simp; omega) | omega))) | ((with_reducible refine bl_later ?_ ?_); (focus (first | (simp; done) | (simp; omega) | omega))) | with_reducible refine bl_drew ?_ | with_reducible refine bl_drewN ?_ | ((with_reducible refine bl_step (by assumption) ?_ ?_); (focus (first | (simp; done) | (simp; omega) | omega)))))))).mono ?_
      rw [show (d.1, d.2) = d from rfl, HO.out]
      rintro en w2 ⟨rfl, hb2⟩
      have hz2 := hb2.size
      simp only [World.size_alloc] at hz2
      have hca0 := fun (o : Nat) => hb2.cell (p := ⟨w.heap.size, o, none⟩) (by (first | (simp; done) | (simp; omega) | omega))
      have hfa0 := fun (o : Nat) => hb2.frozen (p := ⟨w.heap.size, o, none⟩) (by (first | (simp; done) | (simp; omega) | omega))
      have hca1 := fun (o : Nat) => hb2.cell (p := ⟨w.heap.size + 1, o, none⟩) (by (first | (simp; done) | (simp; omega) | omega))
      have hfa1 := fun (o : Nat) => hb2.frozen (p := ⟨w.heap.size + 1, o, none⟩) (by (first | (simp; done) | (simp; omega) | omega))
      go_wp2_with fail
      refine (c_spec_l3Copy ak aw ck cw d _ (HD.out _ (by (repeat (first | with_reducible exact Below.refl _ _ | ((with_reducible refine bl_alloc ?_ ?_); (focus (first | (simp; done) | (simp; omega) | omega))) | ((with_reducible refine bl_set ?_ ?_); (focus (first | (simp; done) | (simp; omega) | omega))) | ((with_reducible refine bl_later ?_ ?_); (focus (first | (simp; done) | (simp; omega) | omega))) | with_reducible refine bl_drew ?_ | with_reducible refine bl_drewN ?_ | ((with_reducible refine bl_step (by assumption) ?_ ?_); (focus (first | (simp; done) | (simp; omega) | omega))))))) hI).mono ?_
      rintro en w3 ⟨a1, c1, a2, c2, rfl, hs3, hb3⟩
      have hz3 := hb3.size
      have Hs3 := Lib.hid hs3
      clear hs3
      have hl0 : w.heap.size < w3.heap.size := by omega
      have hl1 : w.heap.size + 1 < w3.heap.size := by omega
      have hcb0 := fun (o : Nat) => hb3.cell (p := ⟨w.heap.size, o, none⟩) (by (first | (simp; done) | (simp; omega) | omega))
      have hfb0 := fun (o : Nat) => hb3.frozen (p := ⟨w.heap.size, o, none⟩) (by (first | (simp; done) | (simp; omega) | omega))
      have hcb1 := fun (o : Nat) => hb3.cell (p := ⟨w.heap.size + 1, o, none⟩) (by (first | (simp; done) | (simp; omega) | omega))
      have hfb1 := fun (o : Nat) => hb3.frozen (p := ⟨w.heap.size + 1, o, none⟩) (by (first | (simp; done) | (simp; omega) | omega))
      go_wp2_with fail
      refine (c_spec_hasAt _ _ _ _ _ _ x _ (by omega)).mono ?_
      rw [hin]
      rintro en w4 ⟨rfl, hb4⟩
      have hz4 := hb4.size
      simp only [World.size_alloc] at hz4
      have hcc0 := fun (o : Nat) => hb4.cell (p := ⟨w.heap.size, o, none⟩) (by (first | (simp; done) | (simp; omega) | omega))
      have hfc0 := fun (o : Nat) => hb4.frozen (p := ⟨w.heap.size, o, none⟩) (by (first | (simp; done) | (simp; omega) | omega))
      have hcc1 := fun (o : Nat) => hb4.cell (p := ⟨w.heap.size + 1, o, none⟩) (by (first | (simp; done) | (simp; omega) | omega))
      have hfc1 := fun (o : Nat) => hb4.frozen (p := ⟨w.heap.size + 1, o, none⟩) (by (first | (simp; done) | (simp; omega) | omega))
      have hcc2 := fun (o : Nat) => hb4.cell (p := ⟨w3.heap.size, o, none⟩) (by (first | (simp; done) | (simp; omega) | omega))
      have hfc2 := fun (o : Nat) => hb4.frozen (p := ⟨w3.heap.size, o, none⟩) (by (first | (simp; done) | (simp; omega) | omega))
      have hl0 : w.heap.size < w4.heap.size := by omega
      have hl1 : w.heap.size + 1 < w4.heap.size := by omega
      have hl2 : w3.heap.size < w4.heap.size := by omega
      go_wp2_with fail
      refine (c_spec_RowOk ar cr r _ (HRo.out _ (by (repeat (first | with_reducible exact Below.refl _ _ | ((with_reducible refine bl_alloc ?_ ?_); (focus (first | (simp; done) | (simp; omega) | omega))) | ((with_reducible refine bl_set ?_ ?_); (focus (first | (simp; done) | (simp; omega) | omega))) | ((with_reducible refine bl_later ?_ ?_); (focus (first | (simp; done) | (simp; omega) | omega))) | with_reducible refine bl_drew ?_ | with_reducible refine bl_drewN ?_ | ((with_reducible refine bl_step (by assumption) ?_ ?_); (focus (first | (simp; done) | (simp; omega) | omega)))))))).mono ?_
      rw [hro]
      rintro en w' ⟨rfl, rfl⟩
      go_wp2_with fail
      refine bodyPost_ret (v := .tuple #[.agg #[.slice a1 d.1.length c1, .slice a2 d.2.length c2], .bool false]) (by simp [results, Try.results82, go_sem, *]) rfl ⟨a1, c1, a2, c2, rfl, ?_, ?_⟩
      · exact (Hs3.out.kp (by (repeat (first | with_reducible exact kp_refl | ((with_reducible refine kp_alloc ?_ ?_); (focus (first | (simp; done) | (simp; omega) | omega))) | ((with_reducible refine kp_set ?_ ?_); (focus (first | (simp; done) | (simp; omega) | omega))) | with_reducible refine kp_drew ?_ | with_reducible refine kp_drewN ?_ | ((with_reducible refine kp_step (by assumption) ?_ ?_); (focus (first | (simp; done) | (simp; omega) | omega))))))).wide (by omega) (by (first | (simp; done) | (simp; omega) | omega))
      · (repeat (first | with_reducible exact Below.refl _ _ | ((with_reducible refine bl_alloc ?_ ?_); (focus (first | (simp; done) | (simp; omega) | omega))) | ((with_reducible refine bl_set ?_ ?_); (focus (first | (simp; done) | (simp; omega) | omega))) | ((with_reducible refine bl_later ?_ ?_); (focus (first | (simp; done) | (simp; omega) | omega))) | with_reducible refine bl_drew ?_ | with_reducible refine bl_drewN ?_ | ((with_reducible refine bl_step (by assumption) ?_ ?_); (focus (first | (simp; done) | (simp; omega) | omega)))))
    · have h60 : d.2.length = 60 := by
        unfold canWrite at hC
        rw [hin, hro] at hC
        simp at hC
        omega
      have hd1 : decide (60 ≤ (d.2.length : Int)) = true := by simp; omega
      have hd2 : ((d.2.length : Int) == 60) = true := by simp; omega
      clear h60 hC
      go_enter Try.func82, Try.ntmps82
      go_wp2_with fail
      refine (c_spec_DiskOk ak aw ck cw d.1 d.2 _ (HD.out _ (by (repeat (first | with_reducible exact Below.refl _ _ | ((with_reducible refine bl_alloc ?_ ?_); (focus (first | (simp; done) | (simp; omega) | omega))) | ((with_reducible refine bl_set ?_ ?_); (focus (first | (simp; done) | (simp; omega) | omega))) | ((with_reducible refine bl_later ?_ ?_); (focus (first | (simp; done) | (simp; omega) | omega))) | with_reducible refine bl_drew ?_ | with_reducible refine bl_drewN ?_ | ((with_reducible refine bl_step (by assumption) ?_ ?_); (focus (first | (simp; done) | (simp; omega) | omega)))))))).mono ?_
      rw [show (d.1, d.2) = d from rfl, HO.out]
      rintro en w2 ⟨rfl, hb2⟩
      have hz2 := hb2.size
      simp only [World.size_alloc] at hz2
      have hca0 := fun (o : Nat) => hb2.cell (p := ⟨w.heap.size, o, none⟩) (by (first | (simp; done) | (simp; omega) | omega))
      have hfa0 := fun (o : Nat) => hb2.frozen (p := ⟨w.heap.size, o, none⟩) (by (first | (simp; done) | (simp; omega) | omega))
      have hca1 := fun (o : Nat) => hb2.cell (p := ⟨w.heap.size + 1, o, none⟩) (by (first | (simp; done) | (simp; omega) | omega))
      have hfa1 := fun (o : Nat) => hb2.frozen (p := ⟨w.heap.size + 1, o, none⟩) (by (first | (simp; done) | (simp; omega) | omega))
      go_wp2_with fail
      refine (c_spec_l3Copy ak aw ck cw d _ (HD.out _ (by (repeat (first | with_reducible exact Below.refl _ _ | ((with_reducible refine bl_alloc ?_ ?_); (focus (first | (simp; done) | (simp; omega) | omega))) | ((with_reducible refine bl_set ?_ ?_); (focus (first | (simp; done) | (simp; omega) | omega))) | ((with_reducible refine bl_later ?_ ?_); (focus (first | (simp; done) | (simp; omega) | omega))) | with_reducible refine bl_drew ?_ | with_reducible refine bl_drewN ?_ | ((with_reducible refine bl_step (by assumption) ?_ ?_); (focus (first | (simp; done) | (simp; omega) | omega))))))) hI).mono ?_
      rintro en w3 ⟨a1, c1, a2, c2, rfl, hs3, hb3⟩
      have hz3 := hb3.size
      have Hs3 := Lib.hid hs3
      clear hs3
      have hl0 : w.heap.size < w3.heap.size := by omega
      have hl1 : w.heap.size + 1 < w3.heap.size := by omega
      have hcb0 := fun (o : Nat) => hb3.cell (p := ⟨w.heap.size, o, none⟩) (by (first | (simp; done) | (simp; omega) | omega))
      have hfb0 := fun (o : Nat) => hb3.frozen (p := ⟨w.heap.size, o, none⟩) (by (first | (simp; done) | (simp; omega) | omega))
      have hcb1 := fun (o : Nat) => hb3.cell (p := ⟨w.heap.size + 1, o, none⟩) (by (first | (simp; done) | (simp; omega) | omega))
      have hfb1 := fun (o : Nat) => hb3.frozen (p := ⟨w.heap.size + 1, o, none⟩) (by (first | (simp; done) | (simp; omega) | omega))
      go_wp2_with fail
      refine (c_spec_hasAt _ _ _ _ _ _ x _ (by omega)).mono ?_
      rw [hin]
      rintro en w4 ⟨rfl, hb4⟩
      have hz4 := hb4.size
      simp only [World.size_alloc] at hz4
      have hcc0 := fun (o : Nat) => hb4.cell (p := ⟨w.heap.size, o, none⟩) (by (first | (simp; done) | (simp; omega) | omega))
      have hfc0 := fun (o : Nat) => hb4.frozen (p := ⟨w.heap.size, o, none⟩) (by (first | (simp; done) | (simp; omega) | omega))
      have hcc1 := fun (o : Nat) => hb4.cell (p := ⟨w.heap.size + 1, o, none⟩) (by (first | (simp; done) | (simp; omega) | omega))
      have hfc1 := fun (o : Nat) => hb4.frozen (p := ⟨w.heap.size + 1, o, none⟩) (by (first | (simp; done) | (simp; omega) | omega))
      have hcc2 := fun (o : Nat) => hb4.cell (p := ⟨w3.heap.size, o, none⟩) (by (first | (simp; done) | (simp; omega) | omega))
      have hfc2 := fun (o : Nat) => hb4.frozen (p := ⟨w3.heap.size, o, none⟩) (by (first | (simp; done) | (simp; omega) | omega))
      have hl0 : w.heap.size < w4.heap.size := by omega
      have hl1 : w.heap.size + 1 < w4.heap.size := by omega
      have hl2 : w3.heap.size < w4.heap.size := by omega
      go_wp2_with fail
      refine (c_spec_RowOk ar cr r _ (HRo.out _ (by (repeat (first | with_reducible exact Below.refl _ _ | ((with_reducible refine bl_alloc ?_ ?_); (focus (first | (simp; done) | (simp; omega) | omega))) | ((with_reducible refine bl_set ?_ ?_); (focus (first | (simp; done) | (simp; omega) | omega))) | ((with_reducible refine bl_later ?_ ?_); (focus (first | (simp; done) | (simp; omega) | omega))) | with_reducible refine bl_drew ?_ | with_reducible refine bl_drewN ?_ | ((with_reducible refine bl_step (by assumption) ?_ ?_); (focus (first | (simp; done) | (simp; omega) | omega)))))))).mono ?_
      rw [hro]
      rintro en w' ⟨rfl, rfl⟩
      go_wp2_with fail
      refine bodyPost_ret (v := .tuple #[.agg #[.slice a1 d.1.length c1, .slice a2 d.2.length c2], .bool false]) (by simp [results, Try.results82, go_sem, *]) rfl ⟨a1, c1, a2, c2, rfl, ?_, ?_⟩
      · exact (Hs3.out.kp (by (repeat (first | with_reducible exact kp_refl | ((with_reducible refine kp_alloc ?_ ?_); (focus (first | (simp; done) | (simp; omega) | omega))) | ((with_reducible refine kp_set ?_ ?_); (focus (first | (simp; done) | (simp; omega) | omega))) | with_reducible refine kp_drew ?_ | with_reducible refine kp_drewN ?_ | ((with_reducible refine kp_step (by assumption) ?_ ?_); (focus (first | (simp; done) | (simp; omega) | omega))))))).wide (by omega) (by (first | (simp; done) | (simp; omega) | omega))
      · (repeat (first | with_reducible exact Below.refl _ _ | ((with_reducible refine bl_alloc ?_ ?_); (focus (first | (simp; done) | (simp; omega) | omega))) | ((with_reducible refine bl_set ?_ ?_); (focus (first | (simp; done) | (simp; omega) | omega))) | ((with_reducible refine bl_later ?_ ?_); (focus (first | (simp; done) | (simp; omega) | omega))) | with_reducible refine bl_drew ?_ | with_reducible refine bl_drewN ?_ | ((with_reducible refine bl_step (by assumption) ?_ ?_); (focus (first | (simp; done) | (simp; omega) | omega)))))

theorem c_spec_Wrote_y (ak aw : Option Addr) (ck cw : Nat) (d : List (List Int) × List (Int × List Int)) (x : Int) (ar : Option Addr) (cr : Nat) (r : List Int) (w : World) (h : DiskR w ak aw d) (hr : IntsR w ar r) (hO : diskOk d = true) (hC : canWrite d x r = true) :
    Calls Try.prog 82 #[.agg #[.slice ak d.1.length ck, .slice aw d.2.length cw], .int .i64 x, .slice ar r.length cr] w fun en w' => ∃ a1 c1 a2 c2, en = .returned (.tuple #[.agg #[.slice a1 d.1.length c1, .slice a2 (d.2 ++ [(x, r)]).length c2], .bool true]) ∧ DiskOwn w' w.heap.size w'.heap.size (d.1, d.2 ++ [(x, r)]) a1 c1 a2 c2 ∧ Below w.heap.size w w' := by
  have hI := diskOk_B hO
  have hk := diskOk_k hO
  obtain ⟨i0, hi, hj0, hj1, hj2⟩ := info_parts info_write
  obtain ⟨hin, hro, hw60⟩ : inB x 0 ((d.1.length : Int) - 1) = true ∧ rowOk r = true ∧ d.2.length < 60 := by
    unfold canWrite at hC
    simpa using hC
  have hrl := rowOk_len hro
  have hxi : inI64 x := by
    simp only [inB, Bool.and_eq_true, decide_eq_true_eq] at hin
    unfold inI64; omega
  have HO := Lib.hid hO
  clear hO hC
  have HD : Hid (∀ V, Below w.heap.size w V → DiskR V ak aw d) := fun V hb => h.below hb
  have HRo : Hid (∀ V, Below w.heap.size w V → IntsR V ar r) := fun V hb => hr.below hb
  clear h hr
  have hd1 : decide (60 ≤ (d.2.length : Int)) = false := by simp; omega
  have hd2 : ((d.2.length : Int) == 60) = false := by simp; omega
  go_enter Try.func82, Try.ntmps82
  go_wp2_with fail
  refine (c_spec_DiskOk ak aw ck cw d.1 d.2 _ (HD.out _ (by (repeat (first | with_reducible exact Below.refl _ _ | ((with_reducible refine bl_alloc ?_ ?_); (focus (first | (simp; done) | (simp; omega) | omega))) | ((with_reducible refine bl_set ?_ ?_); (focus (first | (simp; done) | (simp; omega) | omega))) | ((with_reducible refine bl_later ?_ ?_); (focus (first | (simp; done) | (simp; omega) | omega))) | with_reducible refine bl_drew ?_ | with_reducible refine bl_drewN ?_ | ((with_reducible refine bl_step (by assumption) ?_ ?_); (focus (first | (simp; done) | (simp; omega) | omega)))))))).mono ?_
  rw [show (d.1, d.2) = d from rfl, HO.out]
  rintro en w2 ⟨rfl, hb2⟩
  have hz2 := hb2.size
  simp only [World.size_alloc] at hz2
  have hca0 := fun (o : Nat) => hb2.cell (p := ⟨w.heap.size, o, none⟩) (by (first | (simp; done) | (simp; omega) | omega))
  have hfa0 := fun (o : Nat) => hb2.frozen (p := ⟨w.heap.size, o, none⟩) (by (first | (simp; done) | (simp; omega) | omega))
  have hca1 := fun (o : Nat) => hb2.cell (p := ⟨w.heap.size + 1, o, none⟩) (by (first | (simp; done) | (simp; omega) | omega))
  have hfa1 := fun (o : Nat) => hb2.frozen (p := ⟨w.heap.size + 1, o, none⟩) (by (first | (simp; done) | (simp; omega) | omega))
  go_wp2_with fail
  refine (c_spec_l3Copy ak aw ck cw d _ (HD.out _ (by (repeat (first | with_reducible exact Below.refl _ _ | ((with_reducible refine bl_alloc ?_ ?_); (focus (first | (simp; done) | (simp; omega) | omega))) | ((with_reducible refine bl_set ?_ ?_); (focus (first | (simp; done) | (simp; omega) | omega))) | ((with_reducible refine bl_later ?_ ?_); (focus (first | (simp; done) | (simp; omega) | omega))) | with_reducible refine bl_drew ?_ | with_reducible refine bl_drewN ?_ | ((with_reducible refine bl_step (by assumption) ?_ ?_); (focus (first | (simp; done) | (simp; omega) | omega))))))) hI).mono ?_
  rintro en w3 ⟨a1, c1, a2, c2, rfl, hs3, hb3⟩
  have hz3 := hb3.size
  obtain ⟨mid, m1, m2, hr3, hw3⟩ := hs3
  have HR3 := Lib.hid hr3
  have HW3 := Lib.hid hw3
  clear hr3 hw3
  have hl0 : w.heap.size < w3.heap.size := by omega
  have hl1 : w.heap.size + 1 < w3.heap.size := by omega
  have hcb0 := fun (o : Nat) => hb3.cell (p := ⟨w.heap.size, o, none⟩) (by (first | (simp; done) | (simp; omega) | omega))
  have hfb0 := fun (o : Nat) => hb3.frozen (p := ⟨w.heap.size, o, none⟩) (by (first | (simp; done) | (simp; omega) | omega))
  have hcb1 := fun (o : Nat) => hb3.cell (p := ⟨w.heap.size + 1, o, none⟩) (by (first | (simp; done) | (simp; omega) | omega))
  have hfb1 := fun (o : Nat) => hb3.frozen (p := ⟨w.heap.size + 1, o, none⟩) (by (first | (simp; done) | (simp; omega) | omega))
  go_wp2_with fail
  refine (c_spec_hasAt _ _ _ _ _ _ x _ (by omega)).mono ?_
  rw [hin]
  rintro en w4 ⟨rfl, hb4⟩
  have hz4 := hb4.size
  simp only [World.size_alloc] at hz4
  have hcc0 := fun (o : Nat) => hb4.cell (p := ⟨w.heap.size, o, none⟩) (by (first | (simp; done) | (simp; omega) | omega))
  have hfc0 := fun (o : Nat) => hb4.frozen (p := ⟨w.heap.size, o, none⟩) (by (first | (simp; done) | (simp; omega) | omega))
  have hcc1 := fun (o : Nat) => hb4.cell (p := ⟨w.heap.size + 1, o, none⟩) (by (first | (simp; done) | (simp; omega) | omega))
  have hfc1 := fun (o : Nat) => hb4.frozen (p := ⟨w.heap.size + 1, o, none⟩) (by (first | (simp; done) | (simp; omega) | omega))
  have hcc2 := fun (o : Nat) => hb4.cell (p := ⟨w3.heap.size, o, none⟩) (by (first | (simp; done) | (simp; omega) | omega))
  have hfc2 := fun (o : Nat) => hb4.frozen (p := ⟨w3.heap.size, o, none⟩) (by (first | (simp; done) | (simp; omega) | omega))
  have hl0 : w.heap.size < w4.heap.size := by omega
  have hl1 : w.heap.size + 1 < w4.heap.size := by omega
  have hl2 : w3.heap.size < w4.heap.size := by omega
  go_wp2_with fail
  refine (c_spec_RowOk ar cr r _ (HRo.out _ (by (repeat (first | with_reducible exact Below.refl _ _ | ((with_reducible refine bl_alloc ?_ ?_); (focus (first | (simp; done) | (simp; omega) | omega))) | ((with_reducible refine bl_set ?_ ?_); (focus (first | (simp; done) | (simp; omega) | omega))) | ((with_reducible refine bl_later ?_ ?_); (focus (first | (simp; done) | (simp; omega) | omega))) | with_reducible refine bl_drew ?_ | with_reducible refine bl_drewN ?_ | ((with_reducible refine bl_step (by assumption) ?_ ?_); (focus (first | (simp; done) | (simp; omega) | omega)))))))).mono ?_
  rw [hro]
  rintro en w' ⟨rfl, rfl⟩
  have HR4 : Hid (NestB (ownI 2) rawS w4 w2.heap.size mid 85 (.slice a1 d.1.length c1) d.1) := HR3.out.kp (by (repeat (first | with_reducible exact kp_refl | ((with_reducible refine kp_alloc ?_ ?_); (focus (first | (simp; done) | (simp; omega) | omega))) | ((with_reducible refine kp_set ?_ ?_); (focus (first | (simp; done) | (simp; omega) | omega))) | with_reducible refine kp_drew ?_ | with_reducible refine kp_drewN ?_ | ((with_reducible refine kp_step (by assumption) ?_ ?_); (focus (first | (simp; done) | (simp; omega) | omega))))))
  have HW : Hid (∃ rs Fs, Nest (pairE numE (ownI 2)) rawW w4 mid 124 (.slice a2 d.2.length c2) d.2 rs Fs ∧ ∀ b ∈ (Value.slice a2 d.2.length c2).ownBlock.toList ++ Fs.flatten, mid ≤ b ∧ b < w3.heap.size) := by
    obtain ⟨rs, Fs, g1, g2, g3⟩ := HW3.out
    have g4 : Kp mid w3.heap.size w3 w4 := by (repeat (first | with_reducible exact kp_refl | ((with_reducible refine kp_alloc ?_ ?_); (focus (first | (simp; done) | (simp; omega) | omega))) | ((with_reducible refine kp_set ?_ ?_); (focus (first | (simp; done) | (simp; omega) | omega))) | with_reducible refine kp_drew ?_ | with_reducible refine kp_drewN ?_ | ((with_reducible refine kp_step (by assumption) ?_ ?_); (focus (first | (simp; done) | (simp; omega) | omega)))))
    exact ⟨rs, Fs, g1.keepB g2 g3 g4, NestB.mem g1 g2 g3⟩
  have HB4 : Hid (Below w.heap.size w w4) := by unfold Hid; (repeat (first | with_reducible exact Below.refl _ _ | ((with_reducible refine bl_alloc ?_ ?_); (focus (first | (simp; done) | (simp; omega) | omega))) | ((with_reducible refine bl_set ?_ ?_); (focus (first | (simp; done) | (simp; omega) | omega))) | ((with_reducible refine bl_later ?_ ?_); (focus (first | (simp; done) | (simp; omega) | omega))) | with_reducible refine bl_drew ?_ | with_reducible refine bl_drewN ?_ | ((with_reducible refine bl_step (by assumption) ?_ ?_); (focus (first | (simp; done) | (simp; omega) | omega)))))
  go_wp2_with fail
  refine restK_begin [7] (by kernel_rfl) ?_
  refine restK_take (v := ?_) 0 rfl (by kernel_rfl) (by kernel_rfl) (by kernel_rfl) (by kernel_rfl) (by kernel_rfl) (by kernel_rfl) (fun _ _ _ h => h) (by rfl) ?_ ?_
  rotate_left
  · intro w9 h9; try dsimp only at h9
    obtain ⟨x9, rfl⟩ := later_of h9
    go_simp; try with_reducible rfl
  try simp only [Act.put, List.setIfInBounds_toArray, List.set_cons_zero, List.set_cons_succ]
  refine restK_take (v := ?_) 1 rfl (by kernel_rfl) (by kernel_rfl) (by kernel_rfl) (by kernel_rfl) (by kernel_rfl) (by kernel_rfl) (fun _ _ _ h => h) (by rfl) ?_ ?_
  rotate_left
  · intro w9 h9; try dsimp only at h9
    obtain ⟨x9, rfl⟩ := later_of h9
    go_simp; try with_reducible rfl
  try simp only [Act.put, List.setIfInBounds_toArray, List.set_cons_zero, List.set_cons_succ]
  refine restK_take (v := ?_) 2 rfl (by kernel_rfl) (by kernel_rfl) (by kernel_rfl) (by kernel_rfl) (by kernel_rfl) (by kernel_rfl) (fun _ _ _ h => h) (by rfl) ?_ ?_
  rotate_left
  · intro w9 h9; try dsimp only at h9
    obtain ⟨x9, rfl⟩ := later_of h9
    go_simp; try with_reducible rfl
  try simp only [Act.put, List.setIfInBounds_toArray, List.set_cons_zero, List.set_cons_succ]
  refine restK_take (v := ?_) 3 rfl (by kernel_rfl) (by kernel_rfl) (by kernel_rfl) (by kernel_rfl) (by kernel_rfl) (by kernel_rfl) (fun _ _ _ h => h) (by rfl) ?_ ?_
  rotate_left
  · intro w9 h9; try dsimp only at h9
    obtain ⟨x9, rfl⟩ := later_of h9
    go_simp; try with_reducible rfl
  try simp only [Act.put, List.setIfInBounds_toArray, List.set_cons_zero, List.set_cons_succ]
  refine restK_alone 4 rfl (by kernel_rfl) (by rfl) (fun hS K hK => ?_)
  go_wp2_with fail
  refine (c_spec_l1Copy ar cr r _ (HRo.out _ (by (repeat (first | with_reducible exact Below.refl _ _ | ((with_reducible refine bl_alloc ?_ ?_); (focus (first | (simp; done) | (simp; omega) | omega))) | ((with_reducible refine bl_set ?_ ?_); (focus (first | (simp; done) | (simp; omega) | omega))) | ((with_reducible refine bl_later ?_ ?_); (focus (first | (simp; done) | (simp; omega) | omega))) | with_reducible refine bl_drew ?_ | with_reducible refine bl_drewN ?_ | ((with_reducible refine bl_step (by assumption) ?_ ?_); (focus (first | (simp; done) | (simp; omega) | omega))))))) (by omega)).mono ?_
  rintro en w5 ⟨a5, c5, rfl, ho5, hb5⟩
  have hS5 := bl_step hb5 hS.size hS
  have hz5 := hb5.size
  simp only [World.size_drew] at hz5 ho5
  have Ho5 := Lib.hid ho5
  clear ho5
  refine hK.out _ _ (hS5) ?_
  try simp only [Act.put, List.setIfInBounds_toArray, List.set_cons_zero, List.set_cons_succ]
  clear hK K hS
  clear hb5
  refine restK_take (v := ?_) 5 rfl (by kernel_rfl) (by kernel_rfl) (by kernel_rfl) (by kernel_rfl) (by kernel_rfl) (by kernel_rfl) (fun _ _ _ h => h) (by rfl) ?_ ?_
  rotate_left
  · intro w9 h9; try dsimp only at h9
    obtain ⟨x9, rfl⟩ := later_of h9
    go_simp; try with_reducible rfl
  try simp only [Act.put, List.setIfInBounds_toArray, List.set_cons_zero, List.set_cons_succ]
  refine restK_alone 6 rfl (by kernel_rfl) (by rfl) (fun hS K hK => ?_)
  go_wp2_with fail
  have hS6 := hS5.alloc hS5.size (.cells (rawW.cells (x, a5, r.length, c5)).toArray 124)
  refine hK.out _ _ (hS6) ?_
  try simp only [Act.put, List.setIfInBounds_toArray, List.set_cons_zero, List.set_cons_succ]
  clear hK K hS
  refine restK_break 7 rfl (by kernel_rfl) (by rfl) (by kernel_rfl) (fun hS K hK => ?_)
  have Hb6 : Hid (Below w4.heap.size w4 (w5.alloc (.cells (rawW.cells (x, a5, r.length, c5)).toArray 124))) := hS6
  have Hx : Hid (Sp (pairE numE (ownI 2)) (w5.alloc (.cells (rawW.cells (x, a5, r.length, c5)).toArray 124)) w4.heap.size (w5.alloc (.cells (rawW.cells (x, a5, r.length, c5)).toArray 124)).heap.size (x, r) (rawW.cells (x, a5, r.length, c5))) :=
    sp_write hxi (((sp_of_ints Ho5.out).kp (kp_alloc (Nat.le_refl _) kp_refl)).wide (by (first | (simp; done) | (simp; omega) | omega)) (by simp))
  have hz6 := hS6.size
  simp only [World.size_alloc] at hz6
  obtain ⟨rs, Fs, HN, HM⟩ := HW.out
  have Hap := Lib.hid HN.apart
  have Hb3 := Lib.hid hS6
  refine wpo_append_nestG (A := pairE numE (ownI 2)) (E := rawW) _ _ 33 (by rfl) mid 124 i0 (.agg #[.int .i64 0, .slice none 0 0]) 32 Try.underlying33 hi hj0 hj1 hj2 rfl (by omega) rawW_one (by rfl) rfl (by rfl) HN Hb6.out Hx.out trivial (by omega) lit_cells (by omega) (fun a6 c6 w6 hn0 hg6 => ?_)
  have hz7 := hg6.size
  simp only [World.size_alloc] at hz7
  have hrow : ∀ k, Value.ownBlock (.slice a2 d.2.length c2) = some k → mid ≤ k ∧ k < w3.heap.size := fun k hk => ⟨(Hap.out k hk).1, (HM k (List.mem_append_left _ (Option.mem_toList.2 hk))).2⟩
  have k6 : ∀ b, b < w4.heap.size → (b < mid ∨ w3.heap.size ≤ b) → w6.heap[b]? = w4.heap[b]? := fun b h1 h2 => (hg6.block b (by simp; omega) (fun e => by have := hrow b e.symm; omega)).trans (Hb3.out.block b h1)
  have HW6 : Hid (∃ hi, ∃ rs Fs, Nest (pairE numE (ownI 2)) rawW w6 mid 124 (.slice a6 (d.2 ++ [(x, r)]).length c6) (d.2 ++ [(x, r)]) rs Fs ∧ (∀ b ∈ (Value.slice a6 (d.2 ++ [(x, r)]).length c6).ownBlock.toList ++ Fs.flatten, b ≠ w3.heap.size ∧ b < hi) ∧ hi = w6.heap.size) := by
    obtain ⟨G, g1, g2⟩ := hn0
    have e : (d.2 ++ [(x, r)]).length = d.2.length + 1 := by simp
    rw [← e] at g1 g2
    refine ⟨_, _, _, g1, fun b hb => ⟨?_, ?_⟩, rfl⟩
    · rcases g2 b hb with hb | hb
      · have := (HM b hb).2; omega
      · omega
    · rcases List.mem_append.1 hb with hb | hb
      · exact (g1.own.2.2.lt b (Option.mem_toList.1 hb)).2
      · exact g1.ltF b hb
  have hcB := fun (o : Nat) => World.cell?_of_block (a := ⟨w3.heap.size, o, none⟩) (k6 w3.heap.size (by omega) (.inr (Nat.le_refl _)))
  have hfB := fun (o : Nat) => World.frozen?_of_block (a := ⟨w3.heap.size, o, none⟩) (k6 w3.heap.size (by omega) (.inr (Nat.le_refl _)))
  have hc60 := fun (o : Nat) => World.cell?_of_block (a := ⟨w.heap.size, o, none⟩) (k6 w.heap.size (by omega) (.inl (by omega)))
  have hc61 := fun (o : Nat) => World.cell?_of_block (a := ⟨w.heap.size + 1, o, none⟩) (k6 (w.heap.size + 1) (by omega) (.inl (by omega)))
  have hf61 := fun (o : Nat) => World.frozen?_of_block (a := ⟨w.heap.size + 1, o, none⟩) (k6 (w.heap.size + 1) (by omega) (.inl (by omega)))
  have HR6 : Hid (NestB (ownI 2) rawS w6 w2.heap.size mid 85 (.slice a1 d.1.length c1) d.1) := HR4.out.kp ⟨by omega, fun i h1 h2 => k6 i (by omega) (.inl h2)⟩
  have hB6 : Below w.heap.size w w6 := Below.grown (bl_step hS6 (by omega) HB4.out) hg6 (by simp; omega) (fun k hk => by have := hrow k hk; omega)
  clear hn0 hg6 HN HM Hb6 Hx hrow k6
  refine hK.out _ _ trivial ?_
  try simp only [Act.put, List.setIfInBounds_toArray, List.set_cons_zero, List.set_cons_succ]
  clear hK K hS
  refine rest_take (v := ?_) 8 rfl (by kernel_rfl) (by kernel_rfl) (by kernel_rfl) (fun _ _ _ h => h) (by rfl) ?_ ?_
  rotate_left
  · intro w9; go_simp; try with_reducible rfl
  try simp only [Act.put, List.setIfInBounds_toArray, List.set_cons_zero, List.set_cons_succ]
  refine rest_alone' 9 rfl (by kernel_rfl) (by rfl) (fun K hK => ?_)
  go_wp2_with fail
  refine hK.out _ _ trivial ?_
  try simp only [Act.put, List.setIfInBounds_toArray, List.set_cons_zero, List.set_cons_succ]
  clear hK K
  refine rest_done (by kernel_rfl) ?_
  go_wp2_with fail
  refine bodyPost_ret (v := .tuple #[.agg #[.slice a1 d.1.length c1, .slice a6 (d.2.length + 1) c6], .bool true]) (by simp [results, Try.results82, go_sem, *]) rfl ⟨a1, c1, a6, c6, ?_, ?_, ?_⟩
  · rw [List.length_append]; rfl
  · obtain ⟨_, rs, Fs, g1, g2, rfl⟩ := HW6.out
    refine ⟨mid, by omega, by (first | (simp; done) | (simp; omega) | omega), (HR6.out.kp (by (repeat (first | with_reducible exact kp_refl | ((with_reducible refine kp_alloc ?_ ?_); (focus (first | (simp; done) | (simp; omega) | omega))) | ((with_reducible refine kp_set ?_ ?_); (focus (first | (simp; done) | (simp; omega) | omega))) | with_reducible refine kp_drew ?_ | with_reducible refine kp_drewN ?_ | ((with_reducible refine kp_step (by assumption) ?_ ?_); (focus (first | (simp; done) | (simp; omega) | omega))))))).wide (by omega) (Nat.le_refl _), ?_⟩
    refine ⟨rs, Fs, g1.keepF (fun b hb => ?_), fun k hk => ?_, fun b hb => ?_⟩
    · have h1 := g2 b hb
      have h3 := (NestB.mem g1 (fun k hk => (g1.own.2.2.lt k hk).2) g1.ltF b hb).1
      repeat (first | rfl | (rw [Below.heap_setCell _ _ _ _ (by simp; omega)]))
    · have := (g1.own.2.2.lt k hk).2; simp; omega
    · have := g1.ltF b hb; simp; omega
  · (repeat (first | with_reducible exact Below.refl _ _ | ((with_reducible refine bl_alloc ?_ ?_); (focus (first | (simp; done) | (simp; omega) | omega))) | ((with_reducible refine bl_set ?_ ?_); (focus (first | (simp; done) | (simp; omega) | omega))) | ((with_reducible refine bl_later ?_ ?_); (focus (first | (simp; done) | (simp; omega) | omega))) | with_reducible refine bl_drew ?_ | with_reducible refine bl_drewN ?_ | ((with_reducible refine bl_step (by assumption) ?_ ?_); (focus (first | (simp; done) | (simp; omega) | omega)))))

theorem c_impl_Wrote_n (ak aw : Option Addr) (ck cw : Nat) (d : List (List Int) × List (Int × List Int)) (x : Int) (ar : Option Addr) (cr : Nat) (r : List Int) (w : World) (h : DiskR w ak aw d) (hr : IntsR w ar r) (hO : diskOk d = true) (hC : canWrite d x r = false) :
    Calls Try.prog 141 #[.agg #[.slice ak d.1.length ck, .slice aw d.2.length cw], .int .i64 x, .slice ar r.length cr] w fun en w' => ∃ a1 c1 a2 c2, en = .returned (.tuple #[.agg #[.slice a1 d.1.length c1, .slice a2 d.2.length c2], .bool false]) ∧ DiskOwn w' w.heap.size w'.heap.size d a1 c1 a2 c2 ∧ Below w.heap.size w w' := by
  have hI := diskOk_B hO
  have hk := diskOk_k hO
  have hw60 := diskOk_w hO
  have HO := Lib.hid hO
  clear hO
  have HD : Hid (∀ V, Below w.heap.size w V → DiskR V ak aw d) := fun V hb => h.below hb
  have HRo : Hid (∀ V, Below w.heap.size w V → IntsR V ar r) := fun V hb => hr.below hb
  clear h hr
  cases hin : inB x 0 ((d.1.length : Int) - 1)
  · clear hC
    go_enter Try.func141, Try.ntmps141
    go_wp2_with fail
    refine (c_impl_DiskOk ak aw ck cw d.1 d.2 _ (HD.out _ (by (repeat (first | with_reducible exact Below.refl _ _ | ((with_reducible refine bl_alloc ?_ ?_); (focus (first | (simp; done) | (simp; omega) | omega))) | ((with_reducible refine bl_set ?_ ?_); (focus (first | (simp; done) | (simp; omega) | omega))) | ((with_reducible refine bl_later ?_ ?_); (focus (first | (simp; done) | (simp; omega) | omega))) | with_reducible refine bl_drew ?_ | with_reducible refine bl_drewN ?_ | ((with_reducible refine bl_step (by assumption) ?_ ?_); (focus (first | (simp; done) | (simp; omega) | omega)))))))).mono ?_
    rw [show (d.1, d.2) = d from rfl, HO.out]
    rintro en w2 ⟨rfl, hb2⟩
    have hz2 := hb2.size
    simp only [World.size_alloc] at hz2
    have hca0 := fun (o : Nat) => hb2.cell (p := ⟨w.heap.size, o, none⟩) (by (first | (simp; done) | (simp; omega) | omega))
    have hfa0 := fun (o : Nat) => hb2.frozen (p := ⟨w.heap.size, o, none⟩) (by (first | (simp; done) | (simp; omega) | omega))
    have hca1 := fun (o : Nat) => hb2.cell (p := ⟨w.heap.size + 1, o, none⟩) (by (first | (simp; done) | (simp; omega) | omega))
    have hfa1 := fun (o : Nat) => hb2.frozen (p := ⟨w.heap.size + 1, o, none⟩) (by (first | (simp; done) | (simp; omega) | omega))
    go_wp2_with fail
    refine (c_impl_copyDisk ak aw ck cw d _ (HD.out _ (by (repeat (first | with_reducible exact Below.refl _ _ | ((with_reducible refine bl_alloc ?_ ?_); (focus (first | (simp; done) | (simp; omega) | omega))) | ((with_reducible refine bl_set ?_ ?_); (focus (first | (simp; done) | (simp; omega) | omega))) | ((with_reducible refine bl_later ?_ ?_); (focus (first | (simp; done) | (simp; omega) | omega))) | with_reducible refine bl_drew ?_ | with_reducible refine bl_drewN ?_ | ((with_reducible refine bl_step (by assumption) ?_ ?_); (focus (first | (simp; done) | (simp; omega) | omega))))))) hI).mono ?_
    rintro en w3 ⟨a1, c1, a2, c2, rfl, hs3, hb3⟩
    have hz3 := hb3.size
    have Hs3 := Lib.hid hs3
    clear hs3
    have hl0 : w.heap.size < w3.heap.size := by omega
    have hl1 : w.heap.size + 1 < w3.heap.size := by omega
    have hcb0 := fun (o : Nat) => hb3.cell (p := ⟨w.heap.size, o, none⟩) (by (first | (simp; done) | (simp; omega) | omega))
    have hfb0 := fun (o : Nat) => hb3.frozen (p := ⟨w.heap.size, o, none⟩) (by (first | (simp; done) | (simp; omega) | omega))
    have hcb1 := fun (o : Nat) => hb3.cell (p := ⟨w.heap.size + 1, o, none⟩) (by (first | (simp; done) | (simp; omega) | omega))
    have hfb1 := fun (o : Nat) => hb3.frozen (p := ⟨w.heap.size + 1, o, none⟩) (by (first | (simp; done) | (simp; omega) | omega))
    go_wp2_with fail
    refine (c_impl_hasAt _ _ _ _ _ _ x _ (by omega)).mono ?_
    rw [hin]
    rintro en w4 ⟨rfl, hb4⟩
    have hz4 := hb4.size
    simp only [World.size_alloc] at hz4
    have hcc0 := fun (o : Nat) => hb4.cell (p := ⟨w.heap.size, o, none⟩) (by (first | (simp; done) | (simp; omega) | omega))
    have hfc0 := fun (o : Nat) => hb4.frozen (p := ⟨w.heap.size, o, none⟩) (by (first | (simp; done) | (simp; omega) | omega))
    have hcc1 := fun (o : Nat) => hb4.cell (p := ⟨w.heap.size + 1, o, none⟩) (by (first | (simp; done) | (simp; omega) | omega))
    have hfc1 := fun (o : Nat) => hb4.frozen (p := ⟨w.heap.size + 1, o, none⟩) (by (first | (simp; done) | (simp; omega) | omega))
    have hcc2 := fun (o : Nat) => hb4.cell (p := ⟨w3.heap.size, o, none⟩) (by (first | (simp; done) | (simp; omega) | omega))
    have hfc2 := fun (o : Nat) => hb4.frozen (p := ⟨w3.heap.size, o, none⟩) (by (first | (simp; done) | (simp; omega) | omega))
    have hl0 : w.heap.size < w4.heap.size := by omega
    have hl1 : w.heap.size + 1 < w4.heap.size := by omega
    have hl2 : w3.heap.size < w4.heap.size := by omega
    go_wp2_with fail
    refine bodyPost_ret (v := .tuple #[.agg #[.slice a1 d.1.length c1, .slice a2 d.2.length c2], .bool false]) (by simp [results, Try.results141, go_sem, *]) rfl ⟨a1, c1, a2, c2, rfl, ?_, ?_⟩
    · exact (Hs3.out.kp (by (repeat (first | with_reducible exact kp_refl | ((with_reducible refine kp_alloc ?_ ?_); (focus (first | (simp; done) | (simp; omega) | omega))) | ((with_reducible refine kp_set ?_ ?_); (focus (first | (simp; done) | (simp; omega) | omega))) | with_reducible refine kp_drew ?_ | with_reducible refine kp_drewN ?_ | ((with_reducible refine kp_step (by assumption) ?_ ?_); (focus (first | (simp; done) | (simp; omega) | omega))))))).wide (by omega) (by (first | (simp; done) | (simp; omega) | omega))
    · (repeat (first | with_reducible exact Below.refl _ _ | ((with_reducible refine bl_alloc ?_ ?_); (focus (first | (simp; done) | (simp; omega) | omega))) | ((with_reducible refine bl_set ?_ ?_); (focus (first | (simp; done) | (simp; omega) | omega))) | ((with_reducible refine bl_later ?_ ?_); (focus (first | (simp; done) | (simp; omega) | omega))) | with_reducible refine bl_drew ?_ | with_reducible refine bl_drewN ?_ | ((with_reducible refine bl_step (by assumption) ?_ ?_); (focus (first | (simp; done) | (simp; omega) | omega)))))
  · cases hro : rowOk r
    · clear hC
      go_enter Try.func141, Try.ntmps141
      go_wp2_with fail
      refine (c_impl_DiskOk ak aw ck cw d.1 d.2 _ (HD.out _ (by (repeat (first | with_reducible exact Below.refl _ _ | ((with_reducible refine bl_alloc ?_ ?_); (focus (first | (simp; done) | (simp; omega) | omega))) | ((with_reducible refine bl_set ?_ ?_); (focus (first | (simp; done) | (simp; omega) | omega))) | ((with_reducible refine bl_later ?_ ?_); (focus (first | (simp; done) | (simp; omega) | omega))) | with_reducible refine bl_drew ?_ | with_reducible refine bl_drewN ?_ | ((with_reducible refine bl_step (by assumption) ?_ ?_); (focus (first | (simp; done) | (simp; omega) | omega)))))))).mono ?_
      rw [show (d.1, d.2) = d from rfl, HO.out]
      rintro en w2 ⟨rfl, hb2⟩
      have hz2 := hb2.size
      simp only [World.size_alloc] at hz2
      have hca0 := fun (o : Nat) => hb2.cell (p := ⟨w.heap.size, o, none⟩) (by (first | (simp; done) | (simp; omega) | omega))
      have hfa0 := fun (o : Nat) => hb2.frozen (p := ⟨w.heap.size, o, none⟩) (by (first | (simp; done) | (simp; omega) | omega))
      have hca1 := fun (o : Nat) => hb2.cell (p := ⟨w.heap.size + 1, o, none⟩) (by (first | (simp; done) | (simp; omega) | omega))
      have hfa1 := fun (o : Nat) => hb2.frozen (p := ⟨w.heap.size + 1, o, none⟩) (by (first | (simp; done) | (simp; omega) | omega))
      go_wp2_with fail
      refine (c_impl_copyDisk ak aw ck cw d _ (HD.out _ (by (repeat (first | with_reducible exact Below.refl _ _ | ((with_reducible refine bl_alloc ?_ ?_); (focus (first | (simp; done) | (simp; omega) | omega))) | ((with_reducible refine bl_set ?_ ?_); (focus (first | (simp; done) | (simp; omega) | omega))) | ((with_reducible refine bl_later ?_ ?_); (focus (first | (simp; done) | (simp; omega) | omega))) | with_reducible refine bl_drew ?_ | with_reducible refine bl_drewN ?_ | ((with_reducible refine bl_step (by assumption) ?_ ?_); (focus (first | (simp; done) | (simp; omega) | omega))))))) hI).mono ?_
      rintro en w3 ⟨a1, c1, a2, c2, rfl, hs3, hb3⟩
      have hz3 := hb3.size
      have Hs3 := Lib.hid hs3
      clear hs3
      have hl0 : w.heap.size < w3.heap.size := by omega
      have hl1 : w.heap.size + 1 < w3.heap.size := by omega
      have hcb0 := fun (o : Nat) => hb3.cell (p := ⟨w.heap.size, o, none⟩) (by (first | (simp; done) | (simp; omega) | omega))
      have hfb0 := fun (o : Nat) => hb3.frozen (p := ⟨w.heap.size, o, none⟩) (by (first | (simp; done) | (simp; omega) | omega))
      have hcb1 := fun (o : Nat) => hb3.cell (p := ⟨w.heap.size + 1, o, none⟩) (by (first | (simp; done) | (simp; omega) | omega))
      have hfb1 := fun (o : Nat) => hb3.frozen (p := ⟨w.heap.size + 1, o, none⟩) (by (first | (simp; done) | (simp; omega) | omega))
      go_wp2_with fail
      refine (c_impl_hasAt _ _ _ _ _ _ x _ (by omega)).mono ?_
      rw [hin]
      rintro en w4 ⟨rfl, hb4⟩
      have hz4 := hb4.size
      simp only [World.size_alloc] at hz4
      have hcc0 := fun (o : Nat) => hb4.cell (p := ⟨w.heap.size, o, none⟩) (by (first | (simp; done) | (simp; omega) | omega))
      have hfc0 := fun (o : Nat) => hb4.frozen (p := ⟨w.heap.size, o, none⟩) (by (first | (simp; done) | (simp; omega) | omega))
      have hcc1 := fun (o : Nat) => hb4.cell (p := ⟨w.heap.size + 1, o, none⟩) (by (first | (simp; done) | (simp; omega) | omega))
      have hfc1 := fun (o : Nat) => hb4.frozen (p := ⟨w.heap.size + 1, o, none⟩) (by (first | (simp; done) | (simp; omega) | omega))
      have hcc2 := fun (o : Nat) => hb4.cell (p := ⟨w3.heap.size, o, none⟩) (by (first | (simp; done) | (simp; omega) | omega))
      have hfc2 := fun (o : Nat) => hb4.frozen (p := ⟨w3.heap.size, o, none⟩) (by (first | (simp; done) | (simp; omega) | omega))
      have hl0 : w.heap.size < w4.heap.size := by omega
      have hl1 : w.heap.size + 1 < w4.heap.size := by omega
      have hl2 : w3.heap.size < w4.heap.size := by omega
      go_wp2_with fail
      refine (c_impl_RowOk ar cr r _ (HRo.out _ (by (repeat (first | with_reducible exact Below.refl _ _ | ((with_reducible refine bl_alloc ?_ ?_); (focus (first | (simp; done) | (simp; omega) | omega))) | ((with_reducible refine bl_set ?_ ?_); (focus (first | (simp; done) | (simp; omega) | omega))) | ((with_reducible refine bl_later ?_ ?_); (focus (first | (simp; done) | (simp; omega) | omega))) | with_reducible refine bl_drew ?_ | with_reducible refine bl_drewN ?_ | ((with_reducible refine bl_step (by assumption) ?_ ?_); (focus (first | (simp; done) | (simp; omega) | omega)))))))).mono ?_
      rw [hro]
      rintro en w' ⟨rfl, rfl⟩
      go_wp2_with fail
      refine bodyPost_ret (v := .tuple #[.agg #[.slice a1 d.1.length c1, .slice a2 d.2.length c2], .bool false]) (by simp [results, Try.results141, go_sem, *]) rfl ⟨a1, c1, a2, c2, rfl, ?_, ?_⟩
      · exact (Hs3.out.kp (by (repeat (first | with_reducible exact kp_refl | ((with_reducible refine kp_alloc ?_ ?_); (focus (first | (simp; done) | (simp; omega) | omega))) | ((with_reducible refine kp_set ?_ ?_); (focus (first | (simp; done) | (simp; omega) | omega))) | with_reducible refine kp_drew ?_ | with_reducible refine kp_drewN ?_ | ((with_reducible refine kp_step (by assumption) ?_ ?_); (focus (first | (simp; done) | (simp; omega) | omega))))))).wide (by omega) (by (first | (simp; done) | (simp; omega) | omega))
      · (repeat (first | with_reducible exact Below.refl _ _ | ((with_reducible refine bl_alloc ?_ ?_); (focus (first | (simp; done) | (simp; omega) | omega))) | ((with_reducible refine bl_set ?_ ?_); (focus (first | (simp; done) | (simp; omega) | omega))) | ((with_reducible refine bl_later ?_ ?_); (focus (first | (simp; done) | (simp; omega) | omega))) | with_reducible refine bl_drew ?_ | with_reducible refine bl_drewN ?_ | ((with_reducible refine bl_step (by assumption) ?_ ?_); (focus (first | (simp; done) | (simp; omega) | omega)))))
    · have h60 : d.2.length = 60 := by
        unfold canWrite at hC
        rw [hin, hro] at hC
        simp at hC
        omega
      have hd1 : decide (60 ≤ (d.2.length : Int)) = true := by simp; omega
      have hd2 : ((d.2.length : Int) == 60) = true := by simp; omega
      clear h60 hC
      go_enter Try.func141, Try.ntmps141
      go_wp2_with fail
      refine (c_impl_DiskOk ak aw ck cw d.1 d.2 _ (HD.out _ (by (repeat (first | with_reducible exact Below.refl _ _ | ((with_reducible refine bl_alloc ?_ ?_); (focus (first | (simp; done) | (simp; omega) | omega))) | ((with_reducible refine bl_set ?_ ?_); (focus (first | (simp; done) | (simp; omega) | omega))) | ((with_reducible refine bl_later ?_ ?_); (focus (first | (simp; done) | (simp; omega) | omega))) | with_reducible refine bl_drew ?_ | with_reducible refine bl_drewN ?_ | ((with_reducible refine bl_step (by assumption) ?_ ?_); (focus (first | (simp; done) | (simp; omega) | omega)))))))).mono ?_
      rw [show (d.1, d.2) = d from rfl, HO.out]
      rintro en w2 ⟨rfl, hb2⟩
      have hz2 := hb2.size
      simp only [World.size_alloc] at hz2
      have hca0 := fun (o : Nat) => hb2.cell (p := ⟨w.heap.size, o, none⟩) (by (first | (simp; done) | (simp; omega) | omega))
      have hfa0 := fun (o : Nat) => hb2.frozen (p := ⟨w.heap.size, o, none⟩) (by (first | (simp; done) | (simp; omega) | omega))
      have hca1 := fun (o : Nat) => hb2.cell (p := ⟨w.heap.size + 1, o, none⟩) (by (first | (simp; done) | (simp; omega) | omega))
      have hfa1 := fun (o : Nat) => hb2.frozen (p := ⟨w.heap.size + 1, o, none⟩) (by (first | (simp; done) | (simp; omega) | omega))
      go_wp2_with fail
      refine (c_impl_copyDisk ak aw ck cw d _ (HD.out _ (by (repeat (first | with_reducible exact Below.refl _ _ | ((with_reducible refine bl_alloc ?_ ?_); (focus (first | (simp; done) | (simp; omega) | omega))) | ((with_reducible refine bl_set ?_ ?_); (focus (first | (simp; done) | (simp; omega) | omega))) | ((with_reducible refine bl_later ?_ ?_); (focus (first | (simp; done) | (simp; omega) | omega))) | with_reducible refine bl_drew ?_ | with_reducible refine bl_drewN ?_ | ((with_reducible refine bl_step (by assumption) ?_ ?_); (focus (first | (simp; done) | (simp; omega) | omega))))))) hI).mono ?_
      rintro en w3 ⟨a1, c1, a2, c2, rfl, hs3, hb3⟩
      have hz3 := hb3.size
      have Hs3 := Lib.hid hs3
      clear hs3
      have hl0 : w.heap.size < w3.heap.size := by omega
      have hl1 : w.heap.size + 1 < w3.heap.size := by omega
      have hcb0 := fun (o : Nat) => hb3.cell (p := ⟨w.heap.size, o, none⟩) (by (first | (simp; done) | (simp; omega) | omega))
      have hfb0 := fun (o : Nat) => hb3.frozen (p := ⟨w.heap.size, o, none⟩) (by (first | (simp; done) | (simp; omega) | omega))
      have hcb1 := fun (o : Nat) => hb3.cell (p := ⟨w.heap.size + 1, o, none⟩) (by (first | (simp; done) | (simp; omega) | omega))
      have hfb1 := fun (o : Nat) => hb3.frozen (p := ⟨w.heap.size + 1, o, none⟩) (by (first | (simp; done) | (simp; omega) | omega))
      go_wp2_with fail
      refine (c_impl_hasAt _ _ _ _ _ _ x _ (by omega)).mono ?_
      rw [hin]
      rintro en w4 ⟨rfl, hb4⟩
      have hz4 := hb4.size
      simp only [World.size_alloc] at hz4
      have hcc0 := fun (o : Nat) => hb4.cell (p := ⟨w.heap.size, o, none⟩) (by (first | (simp; done) | (simp; omega) | omega))
      have hfc0 := fun (o : Nat) => hb4.frozen (p := ⟨w.heap.size, o, none⟩) (by (first | (simp; done) | (simp; omega) | omega))
      have hcc1 := fun (o : Nat) => hb4.cell (p := ⟨w.heap.size + 1, o, none⟩) (by (first | (simp; done) | (simp; omega) | omega))
      have hfc1 := fun (o : Nat) => hb4.frozen (p := ⟨w.heap.size + 1, o, none⟩) (by (first | (simp; done) | (simp; omega) | omega))
      have hcc2 := fun (o : Nat) => hb4.cell (p := ⟨w3.heap.size, o, none⟩) (by (first | (simp; done) | (simp; omega) | omega))
      have hfc2 := fun (o : Nat) => hb4.frozen (p := ⟨w3.heap.size, o, none⟩) (by (first | (simp; done) | (simp; omega) | omega))
      have hl0 : w.heap.size < w4.heap.size := by omega
      have hl1 : w.heap.size + 1 < w4.heap.size := by omega
      have hl2 : w3.heap.size < w4.heap.size := by omega
      go_wp2_with fail
      refine (c_impl_RowOk ar cr r _ (HRo.out _ (by (repeat (first | with_reducible exact Below.refl _ _ | ((with_reducible refine bl_alloc ?_ ?_); (focus (first | (simp; done) | (simp; omega) | omega))) | ((with_reducible refine bl_set ?_ ?_); (focus (first | (simp; done) | (simp; omega) | omega))) | ((with_reducible refine bl_later ?_ ?_); (focus (first | (simp; done) | (simp; omega) | omega))) | with_reducible refine bl_drew ?_ | with_reducible refine bl_drewN ?_ | ((with_reducible refine bl_step (by assumption) ?_ ?_); (focus (first | (simp; done) | (simp; omega) | omega)))))))).mono ?_
      rw [hro]
      rintro en w' ⟨rfl, rfl⟩
      go_wp2_with fail
      refine bodyPost_ret (v := .tuple #[.agg #[.slice a1 d.1.length c1, .slice a2 d.2.length c2], .bool false]) (by simp [results, Try.results141, go_sem, *]) rfl ⟨a1, c1, a2, c2, rfl, ?_, ?_⟩
      · exact (Hs3.out.kp (by (repeat (first | with_reducible exact kp_refl | ((with_reducible refine kp_alloc ?_ ?_); (focus (first | (simp; done) | (simp; omega) | omega))) | ((with_reducible refine kp_set ?_ ?_); (focus (first | (simp; done) | (simp; omega) | omega))) | with_reducible refine kp_drew ?_ | with_reducible refine kp_drewN ?_ | ((with_reducible refine kp_step (by assumption) ?_ ?_); (focus (first | (simp; done) | (simp; omega) | omega))))))).wide (by omega) (by (first | (simp; done) | (simp; omega) | omega))
      · (repeat (first | with_reducible exact Below.refl _ _ | ((with_reducible refine bl_alloc ?_ ?_); (focus (first | (simp; done) | (simp; omega) | omega))) | ((with_reducible refine bl_set ?_ ?_); (focus (first | (simp; done) | (simp; omega) | omega))) | ((with_reducible refine bl_later ?_ ?_); (focus (first | (simp; done) | (simp; omega) | omega))) | with_reducible refine bl_drew ?_ | with_reducible refine bl_drewN ?_ | ((with_reducible refine bl_step (by assumption) ?_ ?_); (focus (first | (simp; done) | (simp; omega) | omega)))))

theorem c_impl_Wrote_y (ak aw : Option Addr) (ck cw : Nat) (d : List (List Int) × List (Int × List Int)) (x : Int) (ar : Option Addr) (cr : Nat) (r : List Int) (w : World) (h : DiskR w ak aw d) (hr : IntsR w ar r) (hO : diskOk d = true) (hC : canWrite d x r = true) :
    Calls Try.prog 141 #[.agg #[.slice ak d.1.length ck, .slice aw d.2.length cw], .int .i64 x, .slice ar r.length cr] w fun en w' => ∃ a1 c1 a2 c2, en = .returned (.tuple #[.agg #[.slice a1 d.1.length c1, .slice a2 (d.2 ++ [(x, r)]).length c2], .bool true]) ∧ DiskOwn w' w.heap.size w'.heap.size (d.1, d.2 ++ [(x, r)]) a1 c1 a2 c2 ∧ Below w.heap.size w w' := by
  have hI := diskOk_B hO
  have hk := diskOk_k hO
  obtain ⟨i0, hi, hj0, hj1, hj2⟩ := info_parts info_write
  obtain ⟨hin, hro, hw60⟩ : inB x 0 ((d.1.length : Int) - 1) = true ∧ rowOk r = true ∧ d.2.length < 60 := by
    unfold canWrite at hC
    simpa using hC
  have hrl := rowOk_len hro
  have hxi : inI64 x := by
    simp only [inB, Bool.and_eq_true, decide_eq_true_eq] at hin
    unfold inI64; omega
  have HO := Lib.hid hO
  clear hO hC
  have HD : Hid (∀ V, Below w.heap.size w V → DiskR V ak aw d) := fun V hb => h.below hb
  have HRo : Hid (∀ V, Below w.heap.size w V → IntsR V ar r) := fun V hb => hr.below hb
  clear h hr
  have hd1 : decide (60 ≤ (d.2.length : Int)) = false := by simp; omega
  have hd2 : ((d.2.length : Int) == 60) = false := by simp; omega
  go_enter Try.func141, Try.ntmps141
  go_wp2_with fail
  refine (c_impl_DiskOk ak aw ck cw d.1 d.2 _ (HD.out _ (by (repeat (first | with_reducible exact Below.refl _ _ | ((with_reducible refine bl_alloc ?_ ?_); (focus (first | (simp; done) | (simp; omega) | omega))) | ((with_reducible refine bl_set ?_ ?_); (focus (first | (simp; done) | (simp; omega) | omega))) | ((with_reducible refine bl_later ?_ ?_); (focus (first | (simp; done) | (simp; omega) | omega))) | with_reducible refine bl_drew ?_ | with_reducible refine bl_drewN ?_ | ((with_reducible refine bl_step (by assumption) ?_ ?_); (focus (first | (simp; done) | (simp; omega) | omega)))))))).mono ?_
  rw [show (d.1, d.2) = d from rfl, HO.out]
  rintro en w2 ⟨rfl, hb2⟩
  have hz2 := hb2.size
  simp only [World.size_alloc] at hz2
  have hca0 := fun (o : Nat) => hb2.cell (p := ⟨w.heap.size, o, none⟩) (by (first | (simp; done) | (simp; omega) | omega))
  have hfa0 := fun (o : Nat) => hb2.frozen (p := ⟨w.heap.size, o, none⟩) (by (first | (simp; done) | (simp; omega) | omega))
  have hca1 := fun (o : Nat) => hb2.cell (p := ⟨w.heap.size + 1, o, none⟩) (by (first | (simp; done) | (simp; omega) | omega))
  have hfa1 := fun (o : Nat) => hb2.frozen (p := ⟨w.heap.size + 1, o, none⟩) (by (first | (simp; done) | (simp; omega) | omega))
  go_wp2_with fail
  refine (c_impl_copyDisk ak aw ck cw d _ (HD.out _ (by (repeat (first | with_reducible exact Below.refl _ _ | ((with_reducible refine bl_alloc ?_ ?_); (focus (first | (simp; done) | (simp; omega) | omega))) | ((with_reducible refine bl_set ?_ ?_); (focus (first | (simp; done) | (simp; omega) | omega))) | ((with_reducible refine bl_later ?_ ?_); (focus (first | (simp; done) | (simp; omega) | omega))) | with_reducible refine bl_drew ?_ | with_reducible refine bl_drewN ?_ | ((with_reducible refine bl_step (by assumption) ?_ ?_); (focus (first | (simp; done) | (simp; omega) | omega))))))) hI).mono ?_
  rintro en w3 ⟨a1, c1, a2, c2, rfl, hs3, hb3⟩
  have hz3 := hb3.size
  obtain ⟨mid, m1, m2, hr3, hw3⟩ := hs3
  have HR3 := Lib.hid hr3
  have HW3 := Lib.hid hw3
  clear hr3 hw3
  have hl0 : w.heap.size < w3.heap.size := by omega
  have hl1 : w.heap.size + 1 < w3.heap.size := by omega
  have hcb0 := fun (o : Nat) => hb3.cell (p := ⟨w.heap.size, o, none⟩) (by (first | (simp; done) | (simp; omega) | omega))
  have hfb0 := fun (o : Nat) => hb3.frozen (p := ⟨w.heap.size, o, none⟩) (by (first | (simp; done) | (simp; omega) | omega))
  have hcb1 := fun (o : Nat) => hb3.cell (p := ⟨w.heap.size + 1, o, none⟩) (by (first | (simp; done) | (simp; omega) | omega))
  have hfb1 := fun (o : Nat) => hb3.frozen (p := ⟨w.heap.size + 1, o, none⟩) (by (first | (simp; done) | (simp; omega) | omega))
  go_wp2_with fail
  refine (c_impl_hasAt _ _ _ _ _ _ x _ (by omega)).mono ?_
  rw [hin]
  rintro en w4 ⟨rfl, hb4⟩
  have hz4 := hb4.size
  simp only [World.size_alloc] at hz4
  have hcc0 := fun (o : Nat) => hb4.cell (p := ⟨w.heap.size, o, none⟩) (by (first | (simp; done) | (simp; omega) | omega))
  have hfc0 := fun (o : Nat) => hb4.frozen (p := ⟨w.heap.size, o, none⟩) (by (first | (simp; done) | (simp; omega) | omega))
  have hcc1 := fun (o : Nat) => hb4.cell (p := ⟨w.heap.size + 1, o, none⟩) (by (first | (simp; done) | (simp; omega) | omega))
  have hfc1 := fun (o : Nat) => hb4.frozen (p := ⟨w.heap.size + 1, o, none⟩) (by (first | (simp; done) | (simp; omega) | omega))
  have hcc2 := fun (o : Nat) => hb4.cell (p := ⟨w3.heap.size, o, none⟩) (by (first | (simp; done) | (simp; omega) | omega))
  have hfc2 := fun (o : Nat) => hb4.frozen (p := ⟨w3.heap.size, o, none⟩) (by (first | (simp; done) | (simp; omega) | omega))
  have hl0 : w.heap.size < w4.heap.size := by omega
  have hl1 : w.heap.size + 1 < w4.heap.size := by omega
  have hl2 : w3.heap.size < w4.heap.size := by omega
  go_wp2_with fail
  refine (c_impl_RowOk ar cr r _ (HRo.out _ (by (repeat (first | with_reducible exact Below.refl _ _ | ((with_reducible refine bl_alloc ?_ ?_); (focus (first | (simp; done) | (simp; omega) | omega))) | ((with_reducible refine bl_set ?_ ?_); (focus (first | (simp; done) | (simp; omega) | omega))) | ((with_reducible refine bl_later ?_ ?_); (focus (first | (simp; done) | (simp; omega) | omega))) | with_reducible refine bl_drew ?_ | with_reducible refine bl_drewN ?_ | ((with_reducible refine bl_step (by assumption) ?_ ?_); (focus (first | (simp; done) | (simp; omega) | omega)))))))).mono ?_
  rw [hro]
  rintro en w' ⟨rfl, rfl⟩
  have HR4 : Hid (NestB (ownI 2) rawS w4 w2.heap.size mid 85 (.slice a1 d.1.length c1) d.1) := HR3.out.kp (by (repeat (first | with_reducible exact kp_refl | ((with_reducible refine kp_alloc ?_ ?_); (focus (first | (simp; done) | (simp; omega) | omega))) | ((with_reducible refine kp_set ?_ ?_); (focus (first | (simp; done) | (simp; omega) | omega))) | with_reducible refine kp_drew ?_ | with_reducible refine kp_drewN ?_ | ((with_reducible refine kp_step (by assumption) ?_ ?_); (focus (first | (simp; done) | (simp; omega) | omega))))))
  have HW : Hid (∃ rs Fs, Nest (pairE numE (ownI 2)) rawW w4 mid 124 (.slice a2 d.2.length c2) d.2 rs Fs ∧ ∀ b ∈ (Value.slice a2 d.2.length c2).ownBlock.toList ++ Fs.flatten, mid ≤ b ∧ b < w3.heap.size) := by
    obtain ⟨rs, Fs, g1, g2, g3⟩ := HW3.out
    have g4 : Kp mid w3.heap.size w3 w4 := by (repeat (first | with_reducible exact kp_refl | ((with_reducible refine kp_alloc ?_ ?_); (focus (first | (simp; done) | (simp; omega) | omega))) | ((with_reducible refine kp_set ?_ ?_); (focus (first | (simp; done) | (simp; omega) | omega))) | with_reducible refine kp_drew ?_ | with_reducible refine kp_drewN ?_ | ((with_reducible refine kp_step (by assumption) ?_ ?_); (focus (first | (simp; done) | (simp; omega) | omega)))))
    exact ⟨rs, Fs, g1.keepB g2 g3 g4, NestB.mem g1 g2 g3⟩
  have HB4 : Hid (Below w.heap.size w w4) := by unfold Hid; (repeat (first | with_reducible exact Below.refl _ _ | ((with_reducible refine bl_alloc ?_ ?_); (focus (first | (simp; done) | (simp; omega) | omega))) | ((with_reducible refine bl_set ?_ ?_); (focus (first | (simp; done) | (simp; omega) | omega))) | ((with_reducible refine bl_later ?_ ?_); (focus (first | (simp; done) | (simp; omega) | omega))) | with_reducible refine bl_drew ?_ | with_reducible refine bl_drewN ?_ | ((with_reducible refine bl_step (by assumption) ?_ ?_); (focus (first | (simp; done) | (simp; omega) | omega)))))
  go_wp2_with fail
  refine restK_begin [7] (by kernel_rfl) ?_
  refine restK_take (v := ?_) 0 rfl (by kernel_rfl) (by kernel_rfl) (by kernel_rfl) (by kernel_rfl) (by kernel_rfl) (by kernel_rfl) (fun _ _ _ h => h) (by rfl) ?_ ?_
  rotate_left
  · intro w9 h9; try dsimp only at h9
    obtain ⟨x9, rfl⟩ := later_of h9
    go_simp; try with_reducible rfl
  try simp only [Act.put, List.setIfInBounds_toArray, List.set_cons_zero, List.set_cons_succ]
  refine restK_take (v := ?_) 1 rfl (by kernel_rfl) (by kernel_rfl) (by kernel_rfl) (by kernel_rfl) (by kernel_rfl) (by kernel_rfl) (fun _ _ _ h => h) (by rfl) ?_ ?_
  rotate_left
  · intro w9 h9; try dsimp only at h9
    obtain ⟨x9, rfl⟩ := later_of h9
    go_simp; try with_reducible rfl
  try simp only [Act.put, List.setIfInBounds_toArray, List.set_cons_zero, List.set_cons_succ]
  refine restK_take (v := ?_) 2 rfl (by kernel_rfl) (by kernel_rfl) (by kernel_rfl) (by kernel_rfl) (by kernel_rfl) (by kernel_rfl) (fun _ _ _ h => h) (by rfl) ?_ ?_
  rotate_left
  · intro w9 h9; try dsimp only at h9
    obtain ⟨x9, rfl⟩ := later_of h9
    go_simp; try with_reducible rfl
  try simp only [Act.put, List.setIfInBounds_toArray, List.set_cons_zero, List.set_cons_succ]
  refine restK_take (v := ?_) 3 rfl (by kernel_rfl) (by kernel_rfl) (by kernel_rfl) (by kernel_rfl) (by kernel_rfl) (by kernel_rfl) (fun _ _ _ h => h) (by rfl) ?_ ?_
  rotate_left
  · intro w9 h9; try dsimp only at h9
    obtain ⟨x9, rfl⟩ := later_of h9
    go_simp; try with_reducible rfl
  try simp only [Act.put, List.setIfInBounds_toArray, List.set_cons_zero, List.set_cons_succ]
  refine restK_alone 4 rfl (by kernel_rfl) (by rfl) (fun hS K hK => ?_)
  go_wp2_with fail
  refine (c_impl_copyRow ar cr r _ (HRo.out _ (by (repeat (first | with_reducible exact Below.refl _ _ | ((with_reducible refine bl_alloc ?_ ?_); (focus (first | (simp; done) | (simp; omega) | omega))) | ((with_reducible refine bl_set ?_ ?_); (focus (first | (simp; done) | (simp; omega) | omega))) | ((with_reducible refine bl_later ?_ ?_); (focus (first | (simp; done) | (simp; omega) | omega))) | with_reducible refine bl_drew ?_ | with_reducible refine bl_drewN ?_ | ((with_reducible refine bl_step (by assumption) ?_ ?_); (focus (first | (simp; done) | (simp; omega) | omega))))))) (by omega)).mono ?_
  rintro en w5 ⟨a5, c5, rfl, ho5, hb5⟩
  have hS5 := bl_step hb5 hS.size hS
  have hz5 := hb5.size
  simp only [World.size_drew] at hz5 ho5
  have Ho5 := Lib.hid ho5
  clear ho5
  refine hK.out _ _ (hS5) ?_
  try simp only [Act.put, List.setIfInBounds_toArray, List.set_cons_zero, List.set_cons_succ]
  clear hK K hS
  clear hb5
  refine restK_take (v := ?_) 5 rfl (by kernel_rfl) (by kernel_rfl) (by kernel_rfl) (by kernel_rfl) (by kernel_rfl) (by kernel_rfl) (fun _ _ _ h => h) (by rfl) ?_ ?_
  rotate_left
  · intro w9 h9; try dsimp only at h9
    obtain ⟨x9, rfl⟩ := later_of h9
    go_simp; try with_reducible rfl
  try simp only [Act.put, List.setIfInBounds_toArray, List.set_cons_zero, List.set_cons_succ]
  refine restK_alone 6 rfl (by kernel_rfl) (by rfl) (fun hS K hK => ?_)
  go_wp2_with fail
  have hS6 := hS5.alloc hS5.size (.cells (rawW.cells (x, a5, r.length, c5)).toArray 124)
  refine hK.out _ _ (hS6) ?_
  try simp only [Act.put, List.setIfInBounds_toArray, List.set_cons_zero, List.set_cons_succ]
  clear hK K hS
  refine restK_break 7 rfl (by kernel_rfl) (by rfl) (by kernel_rfl) (fun hS K hK => ?_)
  have Hb6 : Hid (Below w4.heap.size w4 (w5.alloc (.cells (rawW.cells (x, a5, r.length, c5)).toArray 124))) := hS6
  have Hx : Hid (Sp (pairE numE (ownI 2)) (w5.alloc (.cells (rawW.cells (x, a5, r.length, c5)).toArray 124)) w4.heap.size (w5.alloc (.cells (rawW.cells (x, a5, r.length, c5)).toArray 124)).heap.size (x, r) (rawW.cells (x, a5, r.length, c5))) :=
    sp_write hxi (((sp_of_ints Ho5.out).kp (kp_alloc (Nat.le_refl _) kp_refl)).wide (by (first | (simp; done) | (simp; omega) | omega)) (by simp))
  have hz6 := hS6.size
  simp only [World.size_alloc] at hz6
  obtain ⟨rs, Fs, HN, HM⟩ := HW.out
  have Hap := Lib.hid HN.apart
  have Hb3 := Lib.hid hS6
  refine wpo_append_nestG (A := pairE numE (ownI 2)) (E := rawW) _ _ 33 (by rfl) mid 124 i0 (.agg #[.int .i64 0, .slice none 0 0]) 32 Try.underlying33 hi hj0 hj1 hj2 rfl (by omega) rawW_one (by rfl) rfl (by rfl) HN Hb6.out Hx.out trivial (by omega) lit_cells (by omega) (fun a6 c6 w6 hn0 hg6 => ?_)
  have hz7 := hg6.size
  simp only [World.size_alloc] at hz7
  have hrow : ∀ k, Value.ownBlock (.slice a2 d.2.length c2) = some k → mid ≤ k ∧ k < w3.heap.size := fun k hk => ⟨(Hap.out k hk).1, (HM k (List.mem_append_left _ (Option.mem_toList.2 hk))).2⟩
  have k6 : ∀ b, b < w4.heap.size → (b < mid ∨ w3.heap.size ≤ b) → w6.heap[b]? = w4.heap[b]? := fun b h1 h2 => (hg6.block b (by simp; omega) (fun e => by have := hrow b e.symm; omega)).trans (Hb3.out.block b h1)
  have HW6 : Hid (∃ hi, ∃ rs Fs, Nest (pairE numE (ownI 2)) rawW w6 mid 124 (.slice a6 (d.2 ++ [(x, r)]).length c6) (d.2 ++ [(x, r)]) rs Fs ∧ (∀ b ∈ (Value.slice a6 (d.2 ++ [(x, r)]).length c6).ownBlock.toList ++ Fs.flatten, b ≠ w3.heap.size ∧ b < hi) ∧ hi = w6.heap.size) := by
    obtain ⟨G, g1, g2⟩ := hn0
    have e : (d.2 ++ [(x, r)]).length = d.2.length + 1 := by simp
    rw [← e] at g1 g2
    refine ⟨_, _, _, g1, fun b hb => ⟨?_, ?_⟩, rfl⟩
    · rcases g2 b hb with hb | hb
      · have := (HM b hb).2; omega
      · omega
    · rcases List.mem_append.1 hb with hb | hb
      · exact (g1.own.2.2.lt b (Option.mem_toList.1 hb)).2
      · exact g1.ltF b hb
  have hcB := fun (o : Nat) => World.cell?_of_block (a := ⟨w3.heap.size, o, none⟩) (k6 w3.heap.size (by omega) (.inr (Nat.le_refl _)))
  have hfB := fun (o : Nat) => World.frozen?_of_block (a := ⟨w3.heap.size, o, none⟩) (k6 w3.heap.size (by omega) (.inr (Nat.le_refl _)))
  have hc60 := fun (o : Nat) => World.cell?_of_block (a := ⟨w.heap.size, o, none⟩) (k6 w.heap.size (by omega) (.inl (by omega)))
  have hc61 := fun (o : Nat) => World.cell?_of_block (a := ⟨w.heap.size + 1, o, none⟩) (k6 (w.heap.size + 1) (by omega) (.inl (by omega)))
  have hf61 := fun (o : Nat) => World.frozen?_of_block (a := ⟨w.heap.size + 1, o, none⟩) (k6 (w.heap.size + 1) (by omega) (.inl (by omega)))
  have HR6 : Hid (NestB (ownI 2) rawS w6 w2.heap.size mid 85 (.slice a1 d.1.length c1) d.1) := HR4.out.kp ⟨by omega, fun i h1 h2 => k6 i (by omega) (.inl h2)⟩
  have hB6 : Below w.heap.size w w6 := Below.grown (bl_step hS6 (by omega) HB4.out) hg6 (by simp; omega) (fun k hk => by have := hrow k hk; omega)
  clear hn0 hg6 HN HM Hb6 Hx hrow k6
  refine hK.out _ _ trivial ?_
  try simp only [Act.put, List.setIfInBounds_toArray, List.set_cons_zero, List.set_cons_succ]
  clear hK K hS
  refine rest_take (v := ?_) 8 rfl (by kernel_rfl) (by kernel_rfl) (by kernel_rfl) (fun _ _ _ h => h) (by rfl) ?_ ?_
  rotate_left
  · intro w9; go_simp; try with_reducible rfl
  try simp only [Act.put, List.setIfInBounds_toArray, List.set_cons_zero, List.set_cons_succ]
  refine rest_alone' 9 rfl (by kernel_rfl) (by rfl) (fun K hK => ?_)
  go_wp2_with fail
  refine hK.out _ _ trivial ?_
  try simp only [Act.put, List.setIfInBounds_toArray, List.set_cons_zero, List.set_cons_succ]
  clear hK K
  refine rest_done (by kernel_rfl) ?_
  go_wp2_with fail
  refine bodyPost_ret (v := .tuple #[.agg #[.slice a1 d.1.length c1, .slice a6 (d.2.length + 1) c6], .bool true]) (by simp [results, Try.results141, go_sem, *]) rfl ⟨a1, c1, a6, c6, ?_, ?_, ?_⟩
  · rw [List.length_append]; rfl
  · obtain ⟨_, rs, Fs, g1, g2, rfl⟩ := HW6.out
    refine ⟨mid, by omega, by (first | (simp; done) | (simp; omega) | omega), (HR6.out.kp (by (repeat (first | with_reducible exact kp_refl | ((with_reducible refine kp_alloc ?_ ?_); (focus (first | (simp; done) | (simp; omega) | omega))) | ((with_reducible refine kp_set ?_ ?_); (focus (first | (simp; done) | (simp; omega) | omega))) | with_reducible refine kp_drew ?_ | with_reducible refine kp_drewN ?_ | ((with_reducible refine kp_step (by assumption) ?_ ?_); (focus (first | (simp; done) | (simp; omega) | omega))))))).wide (by omega) (Nat.le_refl _), ?_⟩
    refine ⟨rs, Fs, g1.keepF (fun b hb => ?_), fun k hk => ?_, fun b hb => ?_⟩
    · have h1 := g2 b hb
      have h3 := (NestB.mem g1 (fun k hk => (g1.own.2.2.lt k hk).2) g1.ltF b hb).1
      repeat (first | rfl | (rw [Below.heap_setCell _ _ _ _ (by simp; omega)]))
    · have := (g1.own.2.2.lt k hk).2; simp; omega
    · have := g1.ltF b hb; simp; omega
  · (repeat (first | with_reducible exact Below.refl _ _ | ((with_reducible refine bl_alloc ?_ ?_); (focus (first | (simp; done) | (simp; omega) | omega))) | ((with_reducible refine bl_set ?_ ?_); (focus (first | (simp; done) | (simp; omega) | omega))) | ((with_reducible refine bl_later ?_ ?_); (focus (first | (simp; done) | (simp; omega) | omega))) | with_reducible refine bl_drew ?_ | with_reducible refine bl_drewN ?_ | ((with_reducible refine bl_step (by assumption) ?_ ?_); (focus (first | (simp; done) | (simp; omega) | omega)))))

end Go.Proofs.Ytmjafclpeknpcaa
