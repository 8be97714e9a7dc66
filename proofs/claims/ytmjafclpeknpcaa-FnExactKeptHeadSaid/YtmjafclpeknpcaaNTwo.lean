/- Walks of functions of the program, printed by a program of the prover. -/
import Derived.Test.YtmjafclpeknpcaaNDisk
import Derived.WalkKit
import Derived.WalkSpells
import Derived.Deep.QuietTactic
import Derived.BigQuiet
import Derived.Deep.Light
import Derived.Lib.Hide
import Derived.IntWalk
namespace Go.Proofs.Ytmjafclpeknpcaa
open Go.ChangeShapes Go.WideShapes Go.ChangeAt Go.RowKit Go.Deep
set_option maxHeartbeats 1600000
set_option maxRecDepth 100000

def twoOk (d e : List (List Int) × List (Int × List Int)) : Bool := diskOk d && (diskOk e && ((d.1.length : Int) == (e.1.length : Int)))
def keptOk (d e : List (List Int) × List (Int × List Int)) : Bool := twoOk d e && ((d.1.length : Int) == 22)
theorem c_spec_TwoOk (ak aw bk bw : Option Addr) (ck cw dk dw : Nat) (d e : List (List Int) × List (Int × List Int)) (w : World) (h : DiskR w ak aw d) (h2 : DiskR w bk bw e) :
    Calls Try.prog 74 #[.agg #[.slice ak d.1.length ck, .slice aw d.2.length cw, .slice bk e.1.length dk, .slice bw e.2.length dw]] w fun en w' => en = .returned (.bool (twoOk d e)) ∧ Below w.heap.size w w' := by
  have hkm : d.1.length ≤ 9223372036854775807 := h.1.1
  have hkm2 : e.1.length ≤ 9223372036854775807 := h2.1.1
  have HD : Hid (∀ V, Below w.heap.size w V → DiskR V ak aw d) := fun V hb => h.below hb
  have HE : Hid (∀ V, Below w.heap.size w V → DiskR V bk bw e) := fun V hb => h2.below hb
  clear h h2
  cases h1 : diskOk d
  · have Hf : Hid (twoOk d e = false) := by simp [twoOk, h1, Hid]
    go_enter Try.func74, Try.ntmps74
    go_wp2_with fail
    refine (c_spec_DiskOk ak aw ck cw d.1 d.2 _ (HD.out _ (by (repeat (first | with_reducible exact Below.refl _ _ | ((with_reducible refine bl_alloc ?_ ?_); (focus (first | (simp; done) | (simp; omega) | omega))) | ((with_reducible refine bl_set ?_ ?_); (focus (first | (simp; done) | (simp; omega) | omega))) | ((with_reducible refine bl_later ?_ ?_); (focus (first | (simp; done) | (simp; omega) | omega))) | with_reducible refine bl_drew ?_ | with_reducible refine bl_drewN ?_ | ((with_reducible refine bl_step (by assumption) ?_ ?_); (focus (first | (simp; done) | (simp; omega) | omega)))))))).mono ?_
    rw [h1]
    rintro en w2 ⟨rfl, hb2⟩
    obtain ⟨hc, hf, hsz⟩ := bcell hb2
    have hz := hb2.size
    simp only [World.size_alloc] at hz
    go_wp2_with fail
    go_ret
    exact ⟨by rw [Hf.out]; rfl, by (repeat (first | with_reducible exact Below.refl _ _ | ((with_reducible refine bl_alloc ?_ ?_); (focus (first | (simp; done) | (simp; omega) | omega))) | ((with_reducible refine bl_set ?_ ?_); (focus (first | (simp; done) | (simp; omega) | omega))) | ((with_reducible refine bl_later ?_ ?_); (focus (first | (simp; done) | (simp; omega) | omega))) | with_reducible refine bl_drew ?_ | with_reducible refine bl_drewN ?_ | ((with_reducible refine bl_step (by assumption) ?_ ?_); (focus (first | (simp; done) | (simp; omega) | omega)))))⟩
  · cases h2 : diskOk e
    · have Hf : Hid (twoOk d e = false) := by simp [twoOk, h2, Hid]
      go_enter Try.func74, Try.ntmps74
      go_wp2_with fail
      refine (c_spec_DiskOk ak aw ck cw d.1 d.2 _ (HD.out _ (by (repeat (first | with_reducible exact Below.refl _ _ | ((with_reducible refine bl_alloc ?_ ?_); (focus (first | (simp; done) | (simp; omega) | omega))) | ((with_reducible refine bl_set ?_ ?_); (focus (first | (simp; done) | (simp; omega) | omega))) | ((with_reducible refine bl_later ?_ ?_); (focus (first | (simp; done) | (simp; omega) | omega))) | with_reducible refine bl_drew ?_ | with_reducible refine bl_drewN ?_ | ((with_reducible refine bl_step (by assumption) ?_ ?_); (focus (first | (simp; done) | (simp; omega) | omega)))))))).mono ?_
      rw [h1]
      rintro en w2 ⟨rfl, hb2⟩
      obtain ⟨hc, hf, hsz⟩ := bcell hb2
      have hz := hb2.size
      simp only [World.size_alloc] at hz
      go_wp2_with fail
      refine (c_spec_DiskOk bk bw dk dw e.1 e.2 _ (HE.out _ (by (repeat (first | with_reducible exact Below.refl _ _ | ((with_reducible refine bl_alloc ?_ ?_); (focus (first | (simp; done) | (simp; omega) | omega))) | ((with_reducible refine bl_set ?_ ?_); (focus (first | (simp; done) | (simp; omega) | omega))) | ((with_reducible refine bl_later ?_ ?_); (focus (first | (simp; done) | (simp; omega) | omega))) | with_reducible refine bl_drew ?_ | with_reducible refine bl_drewN ?_ | ((with_reducible refine bl_step (by assumption) ?_ ?_); (focus (first | (simp; done) | (simp; omega) | omega)))))))).mono ?_
      rw [h2]
      rintro en w3 ⟨rfl, hb3⟩
      obtain ⟨hc3, hf3, hsz3⟩ := bcell hb3
      have hz3 := hb3.size
      go_wp2_with fail
      go_ret
      exact ⟨by rw [Hf.out]; rfl, by (repeat (first | with_reducible exact Below.refl _ _ | ((with_reducible refine bl_alloc ?_ ?_); (focus (first | (simp; done) | (simp; omega) | omega))) | ((with_reducible refine bl_set ?_ ?_); (focus (first | (simp; done) | (simp; omega) | omega))) | ((with_reducible refine bl_later ?_ ?_); (focus (first | (simp; done) | (simp; omega) | omega))) | with_reducible refine bl_drew ?_ | with_reducible refine bl_drewN ?_ | ((with_reducible refine bl_step (by assumption) ?_ ?_); (focus (first | (simp; done) | (simp; omega) | omega)))))⟩
    · have Hf : Hid (twoOk d e = ((d.1.length : Int) == (e.1.length : Int))) := by simp [twoOk, h1, h2, Hid]
      go_enter Try.func74, Try.ntmps74
      go_wp2_with fail
      refine (c_spec_DiskOk ak aw ck cw d.1 d.2 _ (HD.out _ (by (repeat (first | with_reducible exact Below.refl _ _ | ((with_reducible refine bl_alloc ?_ ?_); (focus (first | (simp; done) | (simp; omega) | omega))) | ((with_reducible refine bl_set ?_ ?_); (focus (first | (simp; done) | (simp; omega) | omega))) | ((with_reducible refine bl_later ?_ ?_); (focus (first | (simp; done) | (simp; omega) | omega))) | with_reducible refine bl_drew ?_ | with_reducible refine bl_drewN ?_ | ((with_reducible refine bl_step (by assumption) ?_ ?_); (focus (first | (simp; done) | (simp; omega) | omega)))))))).mono ?_
      rw [h1]
      rintro en w2 ⟨rfl, hb2⟩
      obtain ⟨hc, hf, hsz⟩ := bcell hb2
      have hz := hb2.size
      simp only [World.size_alloc] at hz
      go_wp2_with fail
      refine (c_spec_DiskOk bk bw dk dw e.1 e.2 _ (HE.out _ (by (repeat (first | with_reducible exact Below.refl _ _ | ((with_reducible refine bl_alloc ?_ ?_); (focus (first | (simp; done) | (simp; omega) | omega))) | ((with_reducible refine bl_set ?_ ?_); (focus (first | (simp; done) | (simp; omega) | omega))) | ((with_reducible refine bl_later ?_ ?_); (focus (first | (simp; done) | (simp; omega) | omega))) | with_reducible refine bl_drew ?_ | with_reducible refine bl_drewN ?_ | ((with_reducible refine bl_step (by assumption) ?_ ?_); (focus (first | (simp; done) | (simp; omega) | omega)))))))).mono ?_
      rw [h2]
      rintro en w3 ⟨rfl, hb3⟩
      obtain ⟨hc3, hf3, hsz3⟩ := bcell hb3
      have hz3 := hb3.size
      go_wp2_with fail
      go_ret
      exact ⟨by rw [Hf.out]; rfl, by (repeat (first | with_reducible exact Below.refl _ _ | ((with_reducible refine bl_alloc ?_ ?_); (focus (first | (simp; done) | (simp; omega) | omega))) | ((with_reducible refine bl_set ?_ ?_); (focus (first | (simp; done) | (simp; omega) | omega))) | ((with_reducible refine bl_later ?_ ?_); (focus (first | (simp; done) | (simp; omega) | omega))) | with_reducible refine bl_drew ?_ | with_reducible refine bl_drewN ?_ | ((with_reducible refine bl_step (by assumption) ?_ ?_); (focus (first | (simp; done) | (simp; omega) | omega)))))⟩
theorem c_impl_TwoOk (ak aw bk bw : Option Addr) (ck cw dk dw : Nat) (d e : List (List Int) × List (Int × List Int)) (w : World) (h : DiskR w ak aw d) (h2 : DiskR w bk bw e) :
    Calls Try.prog 116 #[.agg #[.slice ak d.1.length ck, .slice aw d.2.length cw, .slice bk e.1.length dk, .slice bw e.2.length dw]] w fun en w' => en = .returned (.bool (twoOk d e)) ∧ Below w.heap.size w w' := by
  have hkm : d.1.length ≤ 9223372036854775807 := h.1.1
  have hkm2 : e.1.length ≤ 9223372036854775807 := h2.1.1
  have HD : Hid (∀ V, Below w.heap.size w V → DiskR V ak aw d) := fun V hb => h.below hb
  have HE : Hid (∀ V, Below w.heap.size w V → DiskR V bk bw e) := fun V hb => h2.below hb
  clear h h2
  cases h1 : diskOk d
  · have Hf : Hid (twoOk d e = false) := by simp [twoOk, h1, Hid]
    go_enter Try.func116, Try.ntmps116
    go_wp2_with fail
    refine (c_impl_DiskOk ak aw ck cw d.1 d.2 _ (HD.out _ (by (repeat (first | with_reducible exact Below.refl _ _ | ((with_reducible refine bl_alloc ?_ ?_); (focus (first | (simp; done) | (simp; omega) | omega))) | ((with_reducible refine bl_set ?_ ?_); (focus (first | (simp; done) | (simp; omega) | omega))) | ((with_reducible refine bl_later ?_ ?_); (focus (first | (simp; done) | (simp; omega) | omega))) | with_reducible refine bl_drew ?_ | with_reducible refine bl_drewN ?_ | ((with_reducible refine bl_step (by assumption) ?_ ?_); (focus (first | (simp; done) | (simp; omega) | omega)))))))).mono ?_
    rw [h1]
    rintro en w2 ⟨rfl, hb2⟩
    obtain ⟨hc, hf, hsz⟩ := bcell hb2
    have hz := hb2.size
    simp only [World.size_alloc] at hz
    go_wp2_with fail
    go_ret
    exact ⟨by rw [Hf.out]; rfl, by (repeat (first | with_reducible exact Below.refl _ _ | ((with_reducible refine bl_alloc ?_ ?_); (focus (first | (simp; done) | (simp; omega) | omega))) | ((with_reducible refine bl_set ?_ ?_); (focus (first | (simp; done) | (simp; omega) | omega))) | ((with_reducible refine bl_later ?_ ?_); (focus (first | (simp; done) | (simp; omega) | omega))) | with_reducible refine bl_drew ?_ | with_reducible refine bl_drewN ?_ | ((with_reducible refine bl_step (by assumption) ?_ ?_); (focus (first | (simp; done) | (simp; omega) | omega)))))⟩
  · cases h2 : diskOk e
    · have Hf : Hid (twoOk d e = false) := by simp [twoOk, h2, Hid]
      go_enter Try.func116, Try.ntmps116
      go_wp2_with fail
      refine (c_impl_DiskOk ak aw ck cw d.1 d.2 _ (HD.out _ (by (repeat (first | with_reducible exact Below.refl _ _ | ((with_reducible refine bl_alloc ?_ ?_); (focus (first | (simp; done) | (simp; omega) | omega))) | ((with_reducible refine bl_set ?_ ?_); (focus (first | (simp; done) | (simp; omega) | omega))) | ((with_reducible refine bl_later ?_ ?_); (focus (first | (simp; done) | (simp; omega) | omega))) | with_reducible refine bl_drew ?_ | with_reducible refine bl_drewN ?_ | ((with_reducible refine bl_step (by assumption) ?_ ?_); (focus (first | (simp; done) | (simp; omega) | omega)))))))).mono ?_
      rw [h1]
      rintro en w2 ⟨rfl, hb2⟩
      obtain ⟨hc, hf, hsz⟩ := bcell hb2
      have hz := hb2.size
      simp only [World.size_alloc] at hz
      go_wp2_with fail
      refine (c_impl_DiskOk bk bw dk dw e.1 e.2 _ (HE.out _ (by (repeat (first | with_reducible exact Below.refl _ _ | ((with_reducible refine bl_alloc ?_ ?_); (focus (first | (simp; done) | (simp; omega) | omega))) | ((with_reducible refine bl_set ?_ ?_); (focus (first | (simp; done) | (simp; omega) | omega))) | ((with_reducible refine bl_later ?_ ?_); (focus (first | (simp; done) | (simp; omega) | omega))) | with_reducible refine bl_drew ?_ | with_reducible refine bl_drewN ?_ | ((with_reducible refine bl_step (by assumption) ?_ ?_); (focus (first | (simp; done) | (simp; omega) | omega)))))))).mono ?_
      rw [h2]
      rintro en w3 ⟨rfl, hb3⟩
      obtain ⟨hc3, hf3, hsz3⟩ := bcell hb3
      have hz3 := hb3.size
      go_wp2_with fail
      go_ret
      exact ⟨by rw [Hf.out]; rfl, by (repeat (first | with_reducible exact Below.refl _ _ | ((with_reducible refine bl_alloc ?_ ?_); (focus (first | (simp; done) | (simp; omega) | omega))) | ((with_reducible refine bl_set ?_ ?_); (focus (first | (simp; done) | (simp; omega) | omega))) | ((with_reducible refine bl_later ?_ ?_); (focus (first | (simp; done) | (simp; omega) | omega))) | with_reducible refine bl_drew ?_ | with_reducible refine bl_drewN ?_ | ((with_reducible refine bl_step (by assumption) ?_ ?_); (focus (first | (simp; done) | (simp; omega) | omega)))))⟩
    · have Hf : Hid (twoOk d e = ((d.1.length : Int) == (e.1.length : Int))) := by simp [twoOk, h1, h2, Hid]
      go_enter Try.func116, Try.ntmps116
      go_wp2_with fail
      refine (c_impl_DiskOk ak aw ck cw d.1 d.2 _ (HD.out _ (by (repeat (first | with_reducible exact Below.refl _ _ | ((with_reducible refine bl_alloc ?_ ?_); (focus (first | (simp; done) | (simp; omega) | omega))) | ((with_reducible refine bl_set ?_ ?_); (focus (first | (simp; done) | (simp; omega) | omega))) | ((with_reducible refine bl_later ?_ ?_); (focus (first | (simp; done) | (simp; omega) | omega))) | with_reducible refine bl_drew ?_ | with_reducible refine bl_drewN ?_ | ((with_reducible refine bl_step (by assumption) ?_ ?_); (focus (first | (simp; done) | (simp; omega) | omega)))))))).mono ?_
      rw [h1]
      rintro en w2 ⟨rfl, hb2⟩
      obtain ⟨hc, hf, hsz⟩ := bcell hb2
      have hz := hb2.size
      simp only [World.size_alloc] at hz
      go_wp2_with fail
      refine (c_impl_DiskOk bk bw dk dw e.1 e.2 _ (HE.out _ (by (repeat (first | with_reducible exact Below.refl _ _ | ((with_reducible refine bl_alloc ?_ ?_); (focus (first | (simp; done) | (simp; omega) | omega))) | ((with_reducible refine bl_set ?_ ?_); (focus (first | (simp; done) | (simp; omega) | omega))) | ((with_reducible refine bl_later ?_ ?_); (focus (first | (simp; done) | (simp; omega) | omega))) | with_reducible refine bl_drew ?_ | with_reducible refine bl_drewN ?_ | ((with_reducible refine bl_step (by assumption) ?_ ?_); (focus (first | (simp; done) | (simp; omega) | omega)))))))).mono ?_
      rw [h2]
      rintro en w3 ⟨rfl, hb3⟩
      obtain ⟨hc3, hf3, hsz3⟩ := bcell hb3
      have hz3 := hb3.size
      go_wp2_with fail
      go_ret
      exact ⟨by rw [Hf.out]; rfl, by (repeat (first | with_reducible exact Below.refl _ _ | ((with_reducible refine bl_alloc ?_ ?_); (focus (first | (simp; done) | (simp; omega) | omega))) | ((with_reducible refine bl_set ?_ ?_); (focus (first | (simp; done) | (simp; omega) | omega))) | ((with_reducible refine bl_later ?_ ?_); (focus (first | (simp; done) | (simp; omega) | omega))) | with_reducible refine bl_drew ?_ | with_reducible refine bl_drewN ?_ | ((with_reducible refine bl_step (by assumption) ?_ ?_); (focus (first | (simp; done) | (simp; omega) | omega)))))⟩
theorem c_spec_KeptOk (ak aw bk bw : Option Addr) (ck cw dk dw : Nat) (d e : List (List Int) × List (Int × List Int)) (w : World) (h : DiskR w ak aw d) (h2 : DiskR w bk bw e) :
    Calls Try.prog 30 #[.agg #[.slice ak d.1.length ck, .slice aw d.2.length cw, .slice bk e.1.length dk, .slice bw e.2.length dw]] w fun en w' => en = .returned (.bool (keptOk d e)) ∧ Below w.heap.size w w' := by
  have hkm : d.1.length ≤ 9223372036854775807 := h.1.1
  have hkm2 : e.1.length ≤ 9223372036854775807 := h2.1.1
  have HD : Hid (∀ V, Below w.heap.size w V → DiskR V ak aw d) := fun V hb => h.below hb
  have HE : Hid (∀ V, Below w.heap.size w V → DiskR V bk bw e) := fun V hb => h2.below hb
  clear h h2
  cases h1 : twoOk d e
  · have Hf : Hid (keptOk d e = false) := by simp [keptOk, h1, Hid]
    go_enter Try.func30, Try.ntmps30
    go_wp2_with fail
    refine (c_spec_TwoOk ak aw bk bw ck cw dk dw d e _ (HD.out _ (by (repeat (first | with_reducible exact Below.refl _ _ | ((with_reducible refine bl_alloc ?_ ?_); (focus (first | (simp; done) | (simp; omega) | omega))) | ((with_reducible refine bl_set ?_ ?_); (focus (first | (simp; done) | (simp; omega) | omega))) | ((with_reducible refine bl_later ?_ ?_); (focus (first | (simp; done) | (simp; omega) | omega))) | with_reducible refine bl_drew ?_ | with_reducible refine bl_drewN ?_ | ((with_reducible refine bl_step (by assumption) ?_ ?_); (focus (first | (simp; done) | (simp; omega) | omega))))))) (HE.out _ (by (repeat (first | with_reducible exact Below.refl _ _ | ((with_reducible refine bl_alloc ?_ ?_); (focus (first | (simp; done) | (simp; omega) | omega))) | ((with_reducible refine bl_set ?_ ?_); (focus (first | (simp; done) | (simp; omega) | omega))) | ((with_reducible refine bl_later ?_ ?_); (focus (first | (simp; done) | (simp; omega) | omega))) | with_reducible refine bl_drew ?_ | with_reducible refine bl_drewN ?_ | ((with_reducible refine bl_step (by assumption) ?_ ?_); (focus (first | (simp; done) | (simp; omega) | omega)))))))).mono ?_
    rw [h1]
    rintro en w2 ⟨rfl, hb2⟩
    obtain ⟨hc, hf, hsz⟩ := bcell hb2
    have hz := hb2.size
    simp only [World.size_alloc] at hz
    go_wp2_with fail
    go_ret
    exact ⟨by rw [Hf.out]; rfl, by (repeat (first | with_reducible exact Below.refl _ _ | ((with_reducible refine bl_alloc ?_ ?_); (focus (first | (simp; done) | (simp; omega) | omega))) | ((with_reducible refine bl_set ?_ ?_); (focus (first | (simp; done) | (simp; omega) | omega))) | ((with_reducible refine bl_later ?_ ?_); (focus (first | (simp; done) | (simp; omega) | omega))) | with_reducible refine bl_drew ?_ | with_reducible refine bl_drewN ?_ | ((with_reducible refine bl_step (by assumption) ?_ ?_); (focus (first | (simp; done) | (simp; omega) | omega)))))⟩
  · have Hf : Hid (keptOk d e = ((d.1.length : Int) == 22)) := by simp [keptOk, h1, Hid]
    go_enter Try.func30, Try.ntmps30
    go_wp2_with fail
    refine (c_spec_TwoOk ak aw bk bw ck cw dk dw d e _ (HD.out _ (by (repeat (first | with_reducible exact Below.refl _ _ | ((with_reducible refine bl_alloc ?_ ?_); (focus (first | (simp; done) | (simp; omega) | omega))) | ((with_reducible refine bl_set ?_ ?_); (focus (first | (simp; done) | (simp; omega) | omega))) | ((with_reducible refine bl_later ?_ ?_); (focus (first | (simp; done) | (simp; omega) | omega))) | with_reducible refine bl_drew ?_ | with_reducible refine bl_drewN ?_ | ((with_reducible refine bl_step (by assumption) ?_ ?_); (focus (first | (simp; done) | (simp; omega) | omega))))))) (HE.out _ (by (repeat (first | with_reducible exact Below.refl _ _ | ((with_reducible refine bl_alloc ?_ ?_); (focus (first | (simp; done) | (simp; omega) | omega))) | ((with_reducible refine bl_set ?_ ?_); (focus (first | (simp; done) | (simp; omega) | omega))) | ((with_reducible refine bl_later ?_ ?_); (focus (first | (simp; done) | (simp; omega) | omega))) | with_reducible refine bl_drew ?_ | with_reducible refine bl_drewN ?_ | ((with_reducible refine bl_step (by assumption) ?_ ?_); (focus (first | (simp; done) | (simp; omega) | omega)))))))).mono ?_
    rw [h1]
    rintro en w2 ⟨rfl, hb2⟩
    obtain ⟨hc, hf, hsz⟩ := bcell hb2
    have hz := hb2.size
    simp only [World.size_alloc] at hz
    go_wp2_with fail
    go_ret
    exact ⟨by rw [Hf.out]; rfl, by (repeat (first | with_reducible exact Below.refl _ _ | ((with_reducible refine bl_alloc ?_ ?_); (focus (first | (simp; done) | (simp; omega) | omega))) | ((with_reducible refine bl_set ?_ ?_); (focus (first | (simp; done) | (simp; omega) | omega))) | ((with_reducible refine bl_later ?_ ?_); (focus (first | (simp; done) | (simp; omega) | omega))) | with_reducible refine bl_drew ?_ | with_reducible refine bl_drewN ?_ | ((with_reducible refine bl_step (by assumption) ?_ ?_); (focus (first | (simp; done) | (simp; omega) | omega)))))⟩
theorem c_impl_KeptOk (ak aw bk bw : Option Addr) (ck cw dk dw : Nat) (d e : List (List Int) × List (Int × List Int)) (w : World) (h : DiskR w ak aw d) (h2 : DiskR w bk bw e) :
    Calls Try.prog 64 #[.agg #[.slice ak d.1.length ck, .slice aw d.2.length cw, .slice bk e.1.length dk, .slice bw e.2.length dw]] w fun en w' => en = .returned (.bool (keptOk d e)) ∧ Below w.heap.size w w' := by
  have hkm : d.1.length ≤ 9223372036854775807 := h.1.1
  have hkm2 : e.1.length ≤ 9223372036854775807 := h2.1.1
  have HD : Hid (∀ V, Below w.heap.size w V → DiskR V ak aw d) := fun V hb => h.below hb
  have HE : Hid (∀ V, Below w.heap.size w V → DiskR V bk bw e) := fun V hb => h2.below hb
  clear h h2
  cases h1 : twoOk d e
  · have Hf : Hid (keptOk d e = false) := by simp [keptOk, h1, Hid]
    go_enter Try.func64, Try.ntmps64
    go_wp2_with fail
    refine (c_impl_TwoOk ak aw bk bw ck cw dk dw d e _ (HD.out _ (by (repeat (first | with_reducible exact Below.refl _ _ | ((with_reducible refine bl_alloc ?_ ?_); (focus (first | (simp; done) | (simp; omega) | omega))) | ((with_reducible refine bl_set ?_ ?_); (focus (first | (simp; done) | (simp; omega) | omega))) | ((with_reducible refine bl_later ?_ ?_); (focus (first | (simp; done) | (simp; omega) | omega))) | with_reducible refine bl_drew ?_ | with_reducible refine bl_drewN ?_ | ((with_reducible refine bl_step (by assumption) ?_ ?_); (focus (first | (simp; done) | (simp; omega) | omega))))))) (HE.out _ (by (repeat (first | with_reducible exact Below.refl _ _ | ((with_reducible refine bl_alloc ?_ ?_); (focus (first | (simp; done) | (simp; omega) | omega))) | ((with_reducible refine bl_set ?_ ?_); (focus (first | (simp; done) | (simp; omega) | omega))) | ((with_reducible refine bl_later ?_ ?_); (focus (first | (simp; done) | (simp; omega) | omega))) | with_reducible refine bl_drew ?_ | with_reducible refine bl_drewN ?_ | ((with_reducible refine bl_step (by assumption) ?_ ?_); (focus (first | (simp; done) | (simp; omega) | omega)))))))).mono ?_
    rw [h1]
    rintro en w2 ⟨rfl, hb2⟩
    obtain ⟨hc, hf, hsz⟩ := bcell hb2
    have hz := hb2.size
    simp only [World.size_alloc] at hz
    go_wp2_with fail
    go_ret
    exact ⟨by rw [Hf.out]; rfl, by (repeat (first | with_reducible exact Below.refl _ _ | ((with_reducible refine bl_alloc ?_ ?_); (focus (first | (simp; done) | (simp; omega) | omega))) | ((with_reducible refine bl_set ?_ ?_); (focus (first | (simp; done) | (simp; omega) | omega))) | ((with_reducible refine bl_later ?_ ?_); (focus (first | (simp; done) | (simp; omega) | omega))) | with_reducible refine bl_drew ?_ | with_reducible refine bl_drewN ?_ | ((with_reducible refine bl_step (by assumption) ?_ ?_); (focus (first | (simp; done) | (simp; omega) | omega)))))⟩
  · have Hf : Hid (keptOk d e = ((d.1.length : Int) == 22)) := by simp [keptOk, h1, Hid]
    go_enter Try.func64, Try.ntmps64
    go_wp2_with fail
    refine (c_impl_TwoOk ak aw bk bw ck cw dk dw d e _ (HD.out _ (by (repeat (first | with_reducible exact Below.refl _ _ | ((with_reducible refine bl_alloc ?_ ?_); (focus (first | (simp; done) | (simp; omega) | omega))) | ((with_reducible refine bl_set ?_ ?_); (focus (first | (simp; done) | (simp; omega) | omega))) | ((with_reducible refine bl_later ?_ ?_); (focus (first | (simp; done) | (simp; omega) | omega))) | with_reducible refine bl_drew ?_ | with_reducible refine bl_drewN ?_ | ((with_reducible refine bl_step (by assumption) ?_ ?_); (focus (first | (simp; done) | (simp; omega) | omega))))))) (HE.out _ (by (repeat (first | with_reducible exact Below.refl _ _ | ((with_reducible refine bl_alloc ?_ ?_); (focus (first | (simp; done) | (simp; omega) | omega))) | ((with_reducible refine bl_set ?_ ?_); (focus (first | (simp; done) | (simp; omega) | omega))) | ((with_reducible refine bl_later ?_ ?_); (focus (first | (simp; done) | (simp; omega) | omega))) | with_reducible refine bl_drew ?_ | with_reducible refine bl_drewN ?_ | ((with_reducible refine bl_step (by assumption) ?_ ?_); (focus (first | (simp; done) | (simp; omega) | omega)))))))).mono ?_
    rw [h1]
    rintro en w2 ⟨rfl, hb2⟩
    obtain ⟨hc, hf, hsz⟩ := bcell hb2
    have hz := hb2.size
    simp only [World.size_alloc] at hz
    go_wp2_with fail
    go_ret
    exact ⟨by rw [Hf.out]; rfl, by (repeat (first | with_reducible exact Below.refl _ _ | ((with_reducible refine bl_alloc ?_ ?_); (focus (first | (simp; done) | (simp; omega) | omega))) | ((with_reducible refine bl_set ?_ ?_); (focus (first | (simp; done) | (simp; omega) | omega))) | ((with_reducible refine bl_later ?_ ?_); (focus (first | (simp; done) | (simp; omega) | omega))) | with_reducible refine bl_drew ?_ | with_reducible refine bl_drewN ?_ | ((with_reducible refine bl_step (by assumption) ?_ ?_); (focus (first | (simp; done) | (simp; omega) | omega)))))⟩

end Go.Proofs.Ytmjafclpeknpcaa
