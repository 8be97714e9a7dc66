/- Walks of functions of the program, printed by a program of the prover. -/
import Derived.Test.YtmjafclpeknpcaaNBothI
import Derived.WalkKit
import Derived.WalkSpells
import Derived.Deep.QuietTactic
import Derived.BigQuiet
import Derived.Deep.Light
import Derived.Lib.Hide
import Derived.IntWalk
namespace Go.Proofs.Ytmjafclpeknpcaa
open Go.ChangeShapes Go.WideShapes Go.ChangeAt Go.RowKit Go.Deep
set_option maxHeartbeats 6400000
set_option maxRecDepth 100000

def wroteD (d : List (List Int) × List (Int × List Int)) (x : Int) (r : List Int) : List (List Int) × List (Int × List Int) := if canWrite d x r then (d.1, d.2 ++ [(x, r)]) else d
theorem wroteD_y {d : List (List Int) × List (Int × List Int)} {x : Int} {r : List Int} (h : canWrite d x r = true) : wroteD d x r = (d.1, d.2 ++ [(x, r)]) := if_pos h
theorem wroteD_n {d : List (List Int) × List (Int × List Int)} {x : Int} {r : List Int} (h : canWrite d x r = false) : wroteD d x r = d := if_neg (by rw [h]; simp)
theorem c_spec_WithSum (ao : Option Addr) (cap : Nat) (l : List Int) (w : World) (h : IntsR w ao l) :
    Calls Try.prog 81 #[.slice ao l.length cap] w (RetI w 2 (withSum l)) := by
  by_cases h0 : withSum l = []
  · rw [h0]; exact c_spec_WithSum_n ao cap l w h h0
  · obtain ⟨h1, h2, h3⟩ := withSum_ne h0
    rw [h3]; exact c_spec_WithSum_y ao cap l w h h1 h2
theorem c_spec_Wrote (ak aw : Option Addr) (ck cw : Nat) (d : List (List Int) × List (Int × List Int)) (x : Int) (ar : Option Addr) (cr : Nat) (r : List Int) (w : World) (h : DiskR w ak aw d) (hr : IntsR w ar r) (hO : diskOk d = true) :
    Calls Try.prog 82 #[.agg #[.slice ak d.1.length ck, .slice aw d.2.length cw], .int .i64 x, .slice ar r.length cr] w fun en w' => ∃ a1 c1 a2 c2, en = .returned (.tuple #[.agg #[.slice a1 (wroteD d x r).1.length c1, .slice a2 (wroteD d x r).2.length c2], .bool (canWrite d x r)]) ∧ DiskOwn w' w.heap.size w'.heap.size (wroteD d x r) a1 c1 a2 c2 ∧ Below w.heap.size w w' := by
  cases hC : canWrite d x r
  · rw [wroteD_n hC]; exact c_spec_Wrote_n ak aw ck cw d x ar cr r w h hr hO hC
  · rw [wroteD_y hC]; exact c_spec_Wrote_y ak aw ck cw d x ar cr r w h hr hO hC
theorem c_spec_BothWrote_n (ak aw bk bw : Option Addr) (ck cw dk dw : Nat) (d e : List (List Int) × List (Int × List Int)) (x : Int) (ar : Option Addr) (cr : Nat) (r : List Int) (w : World) (h : DiskR w ak aw d) (h2 : DiskR w bk bw e) (hr : IntsR w ar r) (hT : twoOk d e = true) (hC : bothC d e x r = false) :
    Calls Try.prog 33 #[.agg #[.slice ak d.1.length ck, .slice aw d.2.length cw, .slice bk e.1.length dk, .slice bw e.2.length dw], .int .i64 x, .slice ar r.length cr] w fun en w' => ∃ a1 c1 a2 c2 a3 c3 a4 c4, en = .returned (.tuple #[.agg #[.slice a1 d.1.length c1, .slice a2 d.2.length c2, .slice a3 e.1.length c3, .slice a4 e.2.length c4], .bool false]) ∧ Sp twoO w' w.heap.size w'.heap.size (d, e) [.slice a1 d.1.length c1, .slice a2 d.2.length c2, .slice a3 e.1.length c3, .slice a4 e.2.length c4] ∧ Below w.heap.size w w' := by
  have HD : Hid (∀ V, Below w.heap.size w V → DiskR V ak aw d) := fun V hb => h.below hb
  have HE : Hid (∀ V, Below w.heap.size w V → DiskR V bk bw e) := fun V hb => h2.below hb
  clear h h2
  have HT := Lib.hid hT
  have HO1 := Lib.hid (twoOk_1 hT).1
  have HO2 := Lib.hid (twoOk_1 hT).2
  have HRo : Hid (∀ V, Below w.heap.size w V → IntsR V ar r) := fun V hb => hr.below hb
  clear hT hr
  have hwl := withSum_len r
  by_cases hs0 : withSum r = []
  · clear hC
    have hq : ((withSum r).length == 0) = true := by rw [hs0]; rfl
    have hq2 : (((withSum r).length : Int) == 0) = true := by rw [hs0]; rfl
    clear hs0
    cases hca : canWrite d x (withSum r) <;> cases hcb : canWrite e x (withSum r)
    · skip
      go_enter Try.func33, Try.ntmps33
      go_wp2_with fail
      refine (c_spec_TwoOk ak aw bk bw ck cw dk dw d e _ (HD.out _ (by (repeat (first | with_reducible exact Below.refl _ _ | ((with_reducible refine bl_alloc ?_ ?_); (focus (first | (simp; done) | (simp; omega) | omega))) | ((with_reducible refine bl_set ?_ ?_); (focus (first | (simp; done) | (simp; omega) | omega))) | ((with_reducible refine bl_later ?_ ?_); (focus (first | (simp; done) | (simp; omega) | omega))) | with_reducible refine bl_drew ?_ | with_reducible refine bl_drewN ?_ | ((with_reducible refine bl_step (by assumption) ?_ ?_); (focus (first | (simp; done) | (simp; omega) | omega))))))) (HE.out _ (by (repeat (first | with_reducible exact Below.refl _ _ | ((with_reducible refine bl_alloc ?_ ?_); (focus (first | (simp; done) | (simp; omega) | omega))) | ((with_reducible refine bl_set ?_ ?_); (focus (first | (simp; done) | (simp; omega) | omega))) | ((with_reducible refine bl_later ?_ ?_); (focus (first | (simp; done) | (simp; omega) | omega))) | with_reducible refine bl_drew ?_ | with_reducible refine bl_drewN ?_ | ((with_reducible refine bl_step (by assumption) ?_ ?_); (focus (first | (simp; done) | (simp; omega) | omega)))))))).mono ?_
      rw [HT.out]
      rintro en w2 ⟨rfl, hb2⟩
      have hz2 := hb2.size
      simp only [World.size_alloc] at hz2
      have hca0 := fun (o : Nat) => hb2.cell (p := ⟨w.heap.size, o, none⟩) (by (first | (simp; done) | (simp; omega) | omega))
      have hfa0 := fun (o : Nat) => hb2.frozen (p := ⟨w.heap.size, o, none⟩) (by (first | (simp; done) | (simp; omega) | omega))
      have hca1 := fun (o : Nat) => hb2.cell (p := ⟨w.heap.size + 1, o, none⟩) (by (first | (simp; done) | (simp; omega) | omega))
      have hfa1 := fun (o : Nat) => hb2.frozen (p := ⟨w.heap.size + 1, o, none⟩) (by (first | (simp; done) | (simp; omega) | omega))
      have hla0 : w.heap.size < w2.heap.size := by omega
      have hla1 : w.heap.size + 1 < w2.heap.size := by omega
      go_wp2_with fail
      refine (c_spec_WithSum ar cr r _ (HRo.out _ (by (repeat (first | with_reducible exact Below.refl _ _ | ((with_reducible refine bl_alloc ?_ ?_); (focus (first | (simp; done) | (simp; omega) | omega))) | ((with_reducible refine bl_set ?_ ?_); (focus (first | (simp; done) | (simp; omega) | omega))) | ((with_reducible refine bl_later ?_ ?_); (focus (first | (simp; done) | (simp; omega) | omega))) | with_reducible refine bl_drew ?_ | with_reducible refine bl_drewN ?_ | ((with_reducible refine bl_step (by assumption) ?_ ?_); (focus (first | (simp; done) | (simp; omega) | omega)))))))).mono ?_
      rintro en w3 ⟨a3, c3, rfl, ho3, hb3⟩
      have hz3 := hb3.size
      have Ho3 := Lib.hid ho3
      clear ho3
      have hcb0 := fun (o : Nat) => hb3.cell (p := ⟨w.heap.size, o, none⟩) (by (first | (simp; done) | (simp; omega) | omega))
      have hfb0 := fun (o : Nat) => hb3.frozen (p := ⟨w.heap.size, o, none⟩) (by (first | (simp; done) | (simp; omega) | omega))
      have hcb1 := fun (o : Nat) => hb3.cell (p := ⟨w.heap.size + 1, o, none⟩) (by (first | (simp; done) | (simp; omega) | omega))
      have hfb1 := fun (o : Nat) => hb3.frozen (p := ⟨w.heap.size + 1, o, none⟩) (by (first | (simp; done) | (simp; omega) | omega))
      have hlb0 : w.heap.size < w3.heap.size := by omega
      have hlb1 : w.heap.size + 1 < w3.heap.size := by omega
      go_wp2_with fail
      refine (c_spec_Wrote ak aw ck cw d x a3 c3 (withSum r) _ (HD.out _ (by (repeat (first | with_reducible exact Below.refl _ _ | ((with_reducible refine bl_alloc ?_ ?_); (focus (first | (simp; done) | (simp; omega) | omega))) | ((with_reducible refine bl_set ?_ ?_); (focus (first | (simp; done) | (simp; omega) | omega))) | ((with_reducible refine bl_later ?_ ?_); (focus (first | (simp; done) | (simp; omega) | omega))) | with_reducible refine bl_drew ?_ | with_reducible refine bl_drewN ?_ | ((with_reducible refine bl_step (by assumption) ?_ ?_); (focus (first | (simp; done) | (simp; omega) | omega))))))) (Ho3.out.kp (by (repeat (first | with_reducible exact kp_refl | ((with_reducible refine kp_alloc ?_ ?_); (focus (first | (simp; done) | (simp; omega) | omega))) | ((with_reducible refine kp_set ?_ ?_); (focus (first | (simp; done) | (simp; omega) | omega))) | with_reducible refine kp_drew ?_ | with_reducible refine kp_drewN ?_ | ((with_reducible refine kp_step (by assumption) ?_ ?_); (focus (first | (simp; done) | (simp; omega) | omega))))))).read HO1.out).mono ?_
      rw [hca]
      rintro en w5 ⟨a5, c5, a6, c6, rfl, ho5, hb5⟩
      have hz5 := hb5.size
      have Ho5 := Lib.hid ho5
      clear ho5
      have hcd0 := fun (o : Nat) => hb5.cell (p := ⟨w.heap.size, o, none⟩) (by (first | (simp; done) | (simp; omega) | omega))
      have hfd0 := fun (o : Nat) => hb5.frozen (p := ⟨w.heap.size, o, none⟩) (by (first | (simp; done) | (simp; omega) | omega))
      have hcd1 := fun (o : Nat) => hb5.cell (p := ⟨w.heap.size + 1, o, none⟩) (by (first | (simp; done) | (simp; omega) | omega))
      have hfd1 := fun (o : Nat) => hb5.frozen (p := ⟨w.heap.size + 1, o, none⟩) (by (first | (simp; done) | (simp; omega) | omega))
      have hld0 : w.heap.size < w5.heap.size := by omega
      have hld1 : w.heap.size + 1 < w5.heap.size := by omega
      go_wp2_with fail
      refine (c_spec_Wrote bk bw dk dw e x a3 c3 (withSum r) _ (HE.out _ (by (repeat (first | with_reducible exact Below.refl _ _ | ((with_reducible refine bl_alloc ?_ ?_); (focus (first | (simp; done) | (simp; omega) | omega))) | ((with_reducible refine bl_set ?_ ?_); (focus (first | (simp; done) | (simp; omega) | omega))) | ((with_reducible refine bl_later ?_ ?_); (focus (first | (simp; done) | (simp; omega) | omega))) | with_reducible refine bl_drew ?_ | with_reducible refine bl_drewN ?_ | ((with_reducible refine bl_step (by assumption) ?_ ?_); (focus (first | (simp; done) | (simp; omega) | omega))))))) (Ho3.out.kp (by (repeat (first | with_reducible exact kp_refl | ((with_reducible refine kp_alloc ?_ ?_); (focus (first | (simp; done) | (simp; omega) | omega))) | ((with_reducible refine kp_set ?_ ?_); (focus (first | (simp; done) | (simp; omega) | omega))) | with_reducible refine kp_drew ?_ | with_reducible refine kp_drewN ?_ | ((with_reducible refine kp_step (by assumption) ?_ ?_); (focus (first | (simp; done) | (simp; omega) | omega))))))).read HO2.out).mono ?_
      rw [hcb]
      rintro en w6 ⟨a7, c7, a8, c8, rfl, ho6, hb6⟩
      have hz6 := hb6.size
      simp only [World.size_alloc] at hz6 ho6
      have Ho6 := Lib.hid ho6
      clear ho6
      have hce0 := fun (o : Nat) => hb6.cell (p := ⟨w.heap.size, o, none⟩) (by (first | (simp; done) | (simp; omega) | omega))
      have hfe0 := fun (o : Nat) => hb6.frozen (p := ⟨w.heap.size, o, none⟩) (by (first | (simp; done) | (simp; omega) | omega))
      have hce1 := fun (o : Nat) => hb6.cell (p := ⟨w.heap.size + 1, o, none⟩) (by (first | (simp; done) | (simp; omega) | omega))
      have hfe1 := fun (o : Nat) => hb6.frozen (p := ⟨w.heap.size + 1, o, none⟩) (by (first | (simp; done) | (simp; omega) | omega))
      have hce2 := fun (o : Nat) => hb6.cell (p := ⟨w5.heap.size, o, none⟩) (by (first | (simp; done) | (simp; omega) | omega))
      have hfe2 := fun (o : Nat) => hb6.frozen (p := ⟨w5.heap.size, o, none⟩) (by (first | (simp; done) | (simp; omega) | omega))
      have hle0 : w.heap.size < w6.heap.size := by omega
      have hle1 : w.heap.size + 1 < w6.heap.size := by omega
      have hle2 : w5.heap.size < w6.heap.size := by omega
      go_wp2_with fail
      refine (c_spec_l4Copy ak aw bk bw ck cw dk dw d e _ (HD.out _ (by (repeat (first | with_reducible exact Below.refl _ _ | ((with_reducible refine bl_alloc ?_ ?_); (focus (first | (simp; done) | (simp; omega) | omega))) | ((with_reducible refine bl_set ?_ ?_); (focus (first | (simp; done) | (simp; omega) | omega))) | ((with_reducible refine bl_later ?_ ?_); (focus (first | (simp; done) | (simp; omega) | omega))) | with_reducible refine bl_drew ?_ | with_reducible refine bl_drewN ?_ | ((with_reducible refine bl_step (by assumption) ?_ ?_); (focus (first | (simp; done) | (simp; omega) | omega))))))) (HE.out _ (by (repeat (first | with_reducible exact Below.refl _ _ | ((with_reducible refine bl_alloc ?_ ?_); (focus (first | (simp; done) | (simp; omega) | omega))) | ((with_reducible refine bl_set ?_ ?_); (focus (first | (simp; done) | (simp; omega) | omega))) | ((with_reducible refine bl_later ?_ ?_); (focus (first | (simp; done) | (simp; omega) | omega))) | with_reducible refine bl_drew ?_ | with_reducible refine bl_drewN ?_ | ((with_reducible refine bl_step (by assumption) ?_ ?_); (focus (first | (simp; done) | (simp; omega) | omega))))))) (diskOk_B HO1.out) (diskOk_B HO2.out)).mono ?_
      rintro en w9 ⟨b1, k1, b2, k2, b3, k3, b4, k4, rfl, hs9, hb9⟩
      have hz9 := hb9.size
      simp only [World.size_alloc] at hz9 hs9
      have Hs9 := Lib.hid hs9
      clear hs9
      have hcz0 := fun (o : Nat) => hb9.cell (p := ⟨w.heap.size + 1, o, none⟩) (by (first | (simp; done) | (simp; omega) | omega))
      have hfz0 := fun (o : Nat) => hb9.frozen (p := ⟨w.heap.size + 1, o, none⟩) (by (first | (simp; done) | (simp; omega) | omega))
      have hlz0 : w.heap.size < w9.heap.size := by omega
      have hlz1 : w.heap.size + 1 < w9.heap.size := by omega
      go_wp2_with fail
      refine bodyPost_ret (v := .tuple #[.agg #[.slice b1 d.1.length k1, .slice b2 d.2.length k2, .slice b3 e.1.length k3, .slice b4 e.2.length k4], .bool false]) (by simp [results, Try.results33, go_sem, *]) rfl ⟨b1, k1, b2, k2, b3, k3, b4, k4, rfl, ?_, ?_⟩
      · exact (Hs9.out.kp (by (repeat (first | with_reducible exact kp_refl | ((with_reducible refine kp_alloc ?_ ?_); (focus (first | (simp; done) | (simp; omega) | omega))) | ((with_reducible refine kp_set ?_ ?_); (focus (first | (simp; done) | (simp; omega) | omega))) | with_reducible refine kp_drew ?_ | with_reducible refine kp_drewN ?_ | ((with_reducible refine kp_step (by assumption) ?_ ?_); (focus (first | (simp; done) | (simp; omega) | omega))))))).wide (by omega) (by (first | (simp; done) | (simp; omega) | omega))
      · (repeat (first | with_reducible exact Below.refl _ _ | ((with_reducible refine bl_alloc ?_ ?_); (focus (first | (simp; done) | (simp; omega) | omega))) | ((with_reducible refine bl_set ?_ ?_); (focus (first | (simp; done) | (simp; omega) | omega))) | ((with_reducible refine bl_later ?_ ?_); (focus (first | (simp; done) | (simp; omega) | omega))) | with_reducible refine bl_drew ?_ | with_reducible refine bl_drewN ?_ | ((with_reducible refine bl_step (by assumption) ?_ ?_); (focus (first | (simp; done) | (simp; omega) | omega)))))
    · skip
      go_enter Try.func33, Try.ntmps33
      go_wp2_with fail
      refine (c_spec_TwoOk ak aw bk bw ck cw dk dw d e _ (HD.out _ (by (repeat (first | with_reducible exact Below.refl _ _ | ((with_reducible refine bl_alloc ?_ ?_); (focus (first | (simp; done) | (simp; omega) | omega))) | ((with_reducible refine bl_set ?_ ?_); (focus (first | (simp; done) | (simp; omega) | omega))) | ((with_reducible refine bl_later ?_ ?_); (focus (first | (simp; done) | (simp; omega) | omega))) | with_reducible refine bl_drew ?_ | with_reducible refine bl_drewN ?_ | ((with_reducible refine bl_step (by assumption) ?_ ?_); (focus (first | (simp; done) | (simp; omega) | omega))))))) (HE.out _ (by (repeat (first | with_reducible exact Below.refl _ _ | ((with_reducible refine bl_alloc ?_ ?_); (focus (first | (simp; done) | (simp; omega) | omega))) | ((with_reducible refine bl_set ?_ ?_); (focus (first | (simp; done) | (simp; omega) | omega))) | ((with_reducible refine bl_later ?_ ?_); (focus (first | (simp; done) | (simp; omega) | omega))) | with_reducible refine bl_drew ?_ | with_reducible refine bl_drewN ?_ | ((with_reducible refine bl_step (by assumption) ?_ ?_); (focus (first | (simp; done) | (simp; omega) | omega)))))))).mono ?_
      rw [HT.out]
      rintro en w2 ⟨rfl, hb2⟩
      have hz2 := hb2.size
      simp only [World.size_alloc] at hz2
      have hca0 := fun (o : Nat) => hb2.cell (p := ⟨w.heap.size, o, none⟩) (by (first | (simp; done) | (simp; omega) | omega))
      have hfa0 := fun (o : Nat) => hb2.frozen (p := ⟨w.heap.size, o, none⟩) (by (first | (simp; done) | (simp; omega) | omega))
      have hca1 := fun (o : Nat) => hb2.cell (p := ⟨w.heap.size + 1, o, none⟩) (by (first | (simp; done) | (simp; omega) | omega))
      have hfa1 := fun (o : Nat) => hb2.frozen (p := ⟨w.heap.size + 1, o, none⟩) (by (first | (simp; done) | (simp; omega) | omega))
      have hla0 : w.heap.size < w2.heap.size := by omega
      have hla1 : w.heap.size + 1 < w2.heap.size := by omega
      go_wp2_with fail
      refine (c_spec_WithSum ar cr r _ (HRo.out _ (by (repeat (first | with_reducible exact Below.refl _ _ | ((with_reducible refine bl_alloc ?_ ?_); (focus (first | (simp; done) | (simp; omega) | omega))) | ((with_reducible refine bl_set ?_ ?_); (focus (first | (simp; done) | (simp; omega) | omega))) | ((with_reducible refine bl_later ?_ ?_); (focus (first | (simp; done) | (simp; omega) | omega))) | with_reducible refine bl_drew ?_ | with_reducible refine bl_drewN ?_ | ((with_reducible refine bl_step (by assumption) ?_ ?_); (focus (first | (simp; done) | (simp; omega) | omega)))))))).mono ?_
      rintro en w3 ⟨a3, c3, rfl, ho3, hb3⟩
      have hz3 := hb3.size
      have Ho3 := Lib.hid ho3
      clear ho3
      have hcb0 := fun (o : Nat) => hb3.cell (p := ⟨w.heap.size, o, none⟩) (by (first | (simp; done) | (simp; omega) | omega))
      have hfb0 := fun (o : Nat) => hb3.frozen (p := ⟨w.heap.size, o, none⟩) (by (first | (simp; done) | (simp; omega) | omega))
      have hcb1 := fun (o : Nat) => hb3.cell (p := ⟨w.heap.size + 1, o, none⟩) (by (first | (simp; done) | (simp; omega) | omega))
      have hfb1 := fun (o : Nat) => hb3.frozen (p := ⟨w.heap.size + 1, o, none⟩) (by (first | (simp; done) | (simp; omega) | omega))
      have hlb0 : w.heap.size < w3.heap.size := by omega
      have hlb1 : w.heap.size + 1 < w3.heap.size := by omega
      go_wp2_with fail
      refine (c_spec_Wrote ak aw ck cw d x a3 c3 (withSum r) _ (HD.out _ (by (repeat (first | with_reducible exact Below.refl _ _ | ((with_reducible refine bl_alloc ?_ ?_); (focus (first | (simp; done) | (simp; omega) | omega))) | ((with_reducible refine bl_set ?_ ?_); (focus (first | (simp; done) | (simp; omega) | omega))) | ((with_reducible refine bl_later ?_ ?_); (focus (first | (simp; done) | (simp; omega) | omega))) | with_reducible refine bl_drew ?_ | with_reducible refine bl_drewN ?_ | ((with_reducible refine bl_step (by assumption) ?_ ?_); (focus (first | (simp; done) | (simp; omega) | omega))))))) (Ho3.out.kp (by (repeat (first | with_reducible exact kp_refl | ((with_reducible refine kp_alloc ?_ ?_); (focus (first | (simp; done) | (simp; omega) | omega))) | ((with_reducible refine kp_set ?_ ?_); (focus (first | (simp; done) | (simp; omega) | omega))) | with_reducible refine kp_drew ?_ | with_reducible refine kp_drewN ?_ | ((with_reducible refine kp_step (by assumption) ?_ ?_); (focus (first | (simp; done) | (simp; omega) | omega))))))).read HO1.out).mono ?_
      rw [hca]
      rintro en w5 ⟨a5, c5, a6, c6, rfl, ho5, hb5⟩
      have hz5 := hb5.size
      have Ho5 := Lib.hid ho5
      clear ho5
      have hcd0 := fun (o : Nat) => hb5.cell (p := ⟨w.heap.size, o, none⟩) (by (first | (simp; done) | (simp; omega) | omega))
      have hfd0 := fun (o : Nat) => hb5.frozen (p := ⟨w.heap.size, o, none⟩) (by (first | (simp; done) | (simp; omega) | omega))
      have hcd1 := fun (o : Nat) => hb5.cell (p := ⟨w.heap.size + 1, o, none⟩) (by (first | (simp; done) | (simp; omega) | omega))
      have hfd1 := fun (o : Nat) => hb5.frozen (p := ⟨w.heap.size + 1, o, none⟩) (by (first | (simp; done) | (simp; omega) | omega))
      have hld0 : w.heap.size < w5.heap.size := by omega
      have hld1 : w.heap.size + 1 < w5.heap.size := by omega
      go_wp2_with fail
      refine (c_spec_Wrote bk bw dk dw e x a3 c3 (withSum r) _ (HE.out _ (by (repeat (first | with_reducible exact Below.refl _ _ | ((with_reducible refine bl_alloc ?_ ?_); (focus (first | (simp; done) | (simp; omega) | omega))) | ((with_reducible refine bl_set ?_ ?_); (focus (first | (simp; done) | (simp; omega) | omega))) | ((with_reducible refine bl_later ?_ ?_); (focus (first | (simp; done) | (simp; omega) | omega))) | with_reducible refine bl_drew ?_ | with_reducible refine bl_drewN ?_ | ((with_reducible refine bl_step (by assumption) ?_ ?_); (focus (first | (simp; done) | (simp; omega) | omega))))))) (Ho3.out.kp (by (repeat (first | with_reducible exact kp_refl | ((with_reducible refine kp_alloc ?_ ?_); (focus (first | (simp; done) | (simp; omega) | omega))) | ((with_reducible refine kp_set ?_ ?_); (focus (first | (simp; done) | (simp; omega) | omega))) | with_reducible refine kp_drew ?_ | with_reducible refine kp_drewN ?_ | ((with_reducible refine kp_step (by assumption) ?_ ?_); (focus (first | (simp; done) | (simp; omega) | omega))))))).read HO2.out).mono ?_
      rw [hcb]
      rintro en w6 ⟨a7, c7, a8, c8, rfl, ho6, hb6⟩
      have hz6 := hb6.size
      simp only [World.size_alloc] at hz6 ho6
      have Ho6 := Lib.hid ho6
      clear ho6
      have hce0 := fun (o : Nat) => hb6.cell (p := ⟨w.heap.size, o, none⟩) (by (first | (simp; done) | (simp; omega) | omega))
      have hfe0 := fun (o : Nat) => hb6.frozen (p := ⟨w.heap.size, o, none⟩) (by (first | (simp; done) | (simp; omega) | omega))
      have hce1 := fun (o : Nat) => hb6.cell (p := ⟨w.heap.size + 1, o, none⟩) (by (first | (simp; done) | (simp; omega) | omega))
      have hfe1 := fun (o : Nat) => hb6.frozen (p := ⟨w.heap.size + 1, o, none⟩) (by (first | (simp; done) | (simp; omega) | omega))
      have hce2 := fun (o : Nat) => hb6.cell (p := ⟨w5.heap.size, o, none⟩) (by (first | (simp; done) | (simp; omega) | omega))
      have hfe2 := fun (o : Nat) => hb6.frozen (p := ⟨w5.heap.size, o, none⟩) (by (first | (simp; done) | (simp; omega) | omega))
      have hle0 : w.heap.size < w6.heap.size := by omega
      have hle1 : w.heap.size + 1 < w6.heap.size := by omega
      have hle2 : w5.heap.size < w6.heap.size := by omega
      go_wp2_with fail
      refine (c_spec_l4Copy ak aw bk bw ck cw dk dw d e _ (HD.out _ (by (repeat (first | with_reducible exact Below.refl _ _ | ((with_reducible refine bl_alloc ?_ ?_); (focus (first | (simp; done) | (simp; omega) | omega))) | ((with_reducible refine bl_set ?_ ?_); (focus (first | (simp; done) | (simp; omega) | omega))) | ((with_reducible refine bl_later ?_ ?_); (focus (first | (simp; done) | (simp; omega) | omega))) | with_reducible refine bl_drew ?_ | with_reducible refine bl_drewN ?_ | ((with_reducible refine bl_step (by assumption) ?_ ?_); (focus (first | (simp; done) | (simp; omega) | omega))))))) (HE.out _ (by (repeat (first | with_reducible exact Below.refl _ _ | ((with_reducible refine bl_alloc ?_ ?_); (focus (first | (simp; done) | (simp; omega) | omega))) | ((with_reducible refine bl_set ?_ ?_); (focus (first | (simp; done) | (simp; omega) | omega))) | ((with_reducible refine bl_later ?_ ?_); (focus (first | (simp; done) | (simp; omega) | omega))) | with_reducible refine bl_drew ?_ | with_reducible refine bl_drewN ?_ | ((with_reducible refine bl_step (by assumption) ?_ ?_); (focus (first | (simp; done) | (simp; omega) | omega))))))) (diskOk_B HO1.out) (diskOk_B HO2.out)).mono ?_
      rintro en w9 ⟨b1, k1, b2, k2, b3, k3, b4, k4, rfl, hs9, hb9⟩
      have hz9 := hb9.size
      simp only [World.size_alloc] at hz9 hs9
      have Hs9 := Lib.hid hs9
      clear hs9
      have hcz0 := fun (o : Nat) => hb9.cell (p := ⟨w.heap.size + 1, o, none⟩) (by (first | (simp; done) | (simp; omega) | omega))
      have hfz0 := fun (o : Nat) => hb9.frozen (p := ⟨w.heap.size + 1, o, none⟩) (by (first | (simp; done) | (simp; omega) | omega))
      have hlz0 : w.heap.size < w9.heap.size := by omega
      have hlz1 : w.heap.size + 1 < w9.heap.size := by omega
      go_wp2_with fail
      refine bodyPost_ret (v := .tuple #[.agg #[.slice b1 d.1.length k1, .slice b2 d.2.length k2, .slice b3 e.1.length k3, .slice b4 e.2.length k4], .bool false]) (by simp [results, Try.results33, go_sem, *]) rfl ⟨b1, k1, b2, k2, b3, k3, b4, k4, rfl, ?_, ?_⟩
      · exact (Hs9.out.kp (by (repeat (first | with_reducible exact kp_refl | ((with_reducible refine kp_alloc ?_ ?_); (focus (first | (simp; done) | (simp; omega) | omega))) | ((with_reducible refine kp_set ?_ ?_); (focus (first | (simp; done) | (simp; omega) | omega))) | with_reducible refine kp_drew ?_ | with_reducible refine kp_drewN ?_ | ((with_reducible refine kp_step (by assumption) ?_ ?_); (focus (first | (simp; done) | (simp; omega) | omega))))))).wide (by omega) (by (first | (simp; done) | (simp; omega) | omega))
      · (repeat (first | with_reducible exact Below.refl _ _ | ((with_reducible refine bl_alloc ?_ ?_); (focus (first | (simp; done) | (simp; omega) | omega))) | ((with_reducible refine bl_set ?_ ?_); (focus (first | (simp; done) | (simp; omega) | omega))) | ((with_reducible refine bl_later ?_ ?_); (focus (first | (simp; done) | (simp; omega) | omega))) | with_reducible refine bl_drew ?_ | with_reducible refine bl_drewN ?_ | ((with_reducible refine bl_step (by assumption) ?_ ?_); (focus (first | (simp; done) | (simp; omega) | omega)))))
    · skip
      go_enter Try.func33, Try.ntmps33
      go_wp2_with fail
      refine (c_spec_TwoOk ak aw bk bw ck cw dk dw d e _ (HD.out _ (by (repeat (first | with_reducible exact Below.refl _ _ | ((with_reducible refine bl_alloc ?_ ?_); (focus (first | (simp; done) | (simp; omega) | omega))) | ((with_reducible refine bl_set ?_ ?_); (focus (first | (simp; done) | (simp; omega) | omega))) | ((with_reducible refine bl_later ?_ ?_); (focus (first | (simp; done) | (simp; omega) | omega))) | with_reducible refine bl_drew ?_ | with_reducible refine bl_drewN ?_ | ((with_reducible refine bl_step (by assumption) ?_ ?_); (focus (first | (simp; done) | (simp; omega) | omega))))))) (HE.out _ (by (repeat (first | with_reducible exact Below.refl _ _ | ((with_reducible refine bl_alloc ?_ ?_); (focus (first | (simp; done) | (simp; omega) | omega))) | ((with_reducible refine bl_set ?_ ?_); (focus (first | (simp; done) | (simp; omega) | omega))) | ((with_reducible refine bl_later ?_ ?_); (focus (first | (simp; done) | (simp; omega) | omega))) | with_reducible refine bl_drew ?_ | with_reducible refine bl_drewN ?_ | ((with_reducible refine bl_step (by assumption) ?_ ?_); (focus (first | (simp; done) | (simp; omega) | omega)))))))).mono ?_
      rw [HT.out]
      rintro en w2 ⟨rfl, hb2⟩
      have hz2 := hb2.size
      simp only [World.size_alloc] at hz2
      have hca0 := fun (o : Nat) => hb2.cell (p := ⟨w.heap.size, o, none⟩) (by (first | (simp; done) | (simp; omega) | omega))
      have hfa0 := fun (o : Nat) => hb2.frozen (p := ⟨w.heap.size, o, none⟩) (by (first | (simp; done) | (simp; omega) | omega))
      have hca1 := fun (o : Nat) => hb2.cell (p := ⟨w.heap.size + 1, o, none⟩) (by (first | (simp; done) | (simp; omega) | omega))
      have hfa1 := fun (o : Nat) => hb2.frozen (p := ⟨w.heap.size + 1, o, none⟩) (by (first | (simp; done) | (simp; omega) | omega))
      have hla0 : w.heap.size < w2.heap.size := by omega
      have hla1 : w.heap.size + 1 < w2.heap.size := by omega
      go_wp2_with fail
      refine (c_spec_WithSum ar cr r _ (HRo.out _ (by (repeat (first | with_reducible exact Below.refl _ _ | ((with_reducible refine bl_alloc ?_ ?_); (focus (first | (simp; done) | (simp; omega) | omega))) | ((with_reducible refine bl_set ?_ ?_); (focus (first | (simp; done) | (simp; omega) | omega))) | ((with_reducible refine bl_later ?_ ?_); (focus (first | (simp; done) | (simp; omega) | omega))) | with_reducible refine bl_drew ?_ | with_reducible refine bl_drewN ?_ | ((with_reducible refine bl_step (by assumption) ?_ ?_); (focus (first | (simp; done) | (simp; omega) | omega)))))))).mono ?_
      rintro en w3 ⟨a3, c3, rfl, ho3, hb3⟩
      have hz3 := hb3.size
      have Ho3 := Lib.hid ho3
      clear ho3
      have hcb0 := fun (o : Nat) => hb3.cell (p := ⟨w.heap.size, o, none⟩) (by (first | (simp; done) | (simp; omega) | omega))
      have hfb0 := fun (o : Nat) => hb3.frozen (p := ⟨w.heap.size, o, none⟩) (by (first | (simp; done) | (simp; omega) | omega))
      have hcb1 := fun (o : Nat) => hb3.cell (p := ⟨w.heap.size + 1, o, none⟩) (by (first | (simp; done) | (simp; omega) | omega))
      have hfb1 := fun (o : Nat) => hb3.frozen (p := ⟨w.heap.size + 1, o, none⟩) (by (first | (simp; done) | (simp; omega) | omega))
      have hlb0 : w.heap.size < w3.heap.size := by omega
      have hlb1 : w.heap.size + 1 < w3.heap.size := by omega
      go_wp2_with fail
      refine (c_spec_Wrote ak aw ck cw d x a3 c3 (withSum r) _ (HD.out _ (by (repeat (first | with_reducible exact Below.refl _ _ | ((with_reducible refine bl_alloc ?_ ?_); (focus (first | (simp; done) | (simp; omega) | omega))) | ((with_reducible refine bl_set ?_ ?_); (focus (first | (simp; done) | (simp; omega) | omega))) | ((with_reducible refine bl_later ?_ ?_); (focus (first | (simp; done) | (simp; omega) | omega))) | with_reducible refine bl_drew ?_ | with_reducible refine bl_drewN ?_ | ((with_reducible refine bl_step (by assumption) ?_ ?_); (focus (first | (simp; done) | (simp; omega) | omega))))))) (Ho3.out.kp (by (repeat (first | with_reducible exact kp_refl | ((with_reducible refine kp_alloc ?_ ?_); (focus (first | (simp; done) | (simp; omega) | omega))) | ((with_reducible refine kp_set ?_ ?_); (focus (first | (simp; done) | (simp; omega) | omega))) | with_reducible refine kp_drew ?_ | with_reducible refine kp_drewN ?_ | ((with_reducible refine kp_step (by assumption) ?_ ?_); (focus (first | (simp; done) | (simp; omega) | omega))))))).read HO1.out).mono ?_
      rw [hca]
      rintro en w5 ⟨a5, c5, a6, c6, rfl, ho5, hb5⟩
      have hz5 := hb5.size
      have Ho5 := Lib.hid ho5
      clear ho5
      have hcd0 := fun (o : Nat) => hb5.cell (p := ⟨w.heap.size, o, none⟩) (by (first | (simp; done) | (simp; omega) | omega))
      have hfd0 := fun (o : Nat) => hb5.frozen (p := ⟨w.heap.size, o, none⟩) (by (first | (simp; done) | (simp; omega) | omega))
      have hcd1 := fun (o : Nat) => hb5.cell (p := ⟨w.heap.size + 1, o, none⟩) (by (first | (simp; done) | (simp; omega) | omega))
      have hfd1 := fun (o : Nat) => hb5.frozen (p := ⟨w.heap.size + 1, o, none⟩) (by (first | (simp; done) | (simp; omega) | omega))
      have hld0 : w.heap.size < w5.heap.size := by omega
      have hld1 : w.heap.size + 1 < w5.heap.size := by omega
      go_wp2_with fail
      refine (c_spec_Wrote bk bw dk dw e x a3 c3 (withSum r) _ (HE.out _ (by (repeat (first | with_reducible exact Below.refl _ _ | ((with_reducible refine bl_alloc ?_ ?_); (focus (first | (simp; done) | (simp; omega) | omega))) | ((with_reducible refine bl_set ?_ ?_); (focus (first | (simp; done) | (simp; omega) | omega))) | ((with_reducible refine bl_later ?_ ?_); (focus (first | (simp; done) | (simp; omega) | omega))) | with_reducible refine bl_drew ?_ | with_reducible refine bl_drewN ?_ | ((with_reducible refine bl_step (by assumption) ?_ ?_); (focus (first | (simp; done) | (simp; omega) | omega))))))) (Ho3.out.kp (by (repeat (first | with_reducible exact kp_refl | ((with_reducible refine kp_alloc ?_ ?_); (focus (first | (simp; done) | (simp; omega) | omega))) | ((with_reducible refine kp_set ?_ ?_); (focus (first | (simp; done) | (simp; omega) | omega))) | with_reducible refine kp_drew ?_ | with_reducible refine kp_drewN ?_ | ((with_reducible refine kp_step (by assumption) ?_ ?_); (focus (first | (simp; done) | (simp; omega) | omega))))))).read HO2.out).mono ?_
      rw [hcb]
      rintro en w6 ⟨a7, c7, a8, c8, rfl, ho6, hb6⟩
      have hz6 := hb6.size
      simp only [World.size_alloc] at hz6 ho6
      have Ho6 := Lib.hid ho6
      clear ho6
      have hce0 := fun (o : Nat) => hb6.cell (p := ⟨w.heap.size, o, none⟩) (by (first | (simp; done) | (simp; omega) | omega))
      have hfe0 := fun (o : Nat) => hb6.frozen (p := ⟨w.heap.size, o, none⟩) (by (first | (simp; done) | (simp; omega) | omega))
      have hce1 := fun (o : Nat) => hb6.cell (p := ⟨w.heap.size + 1, o, none⟩) (by (first | (simp; done) | (simp; omega) | omega))
      have hfe1 := fun (o : Nat) => hb6.frozen (p := ⟨w.heap.size + 1, o, none⟩) (by (first | (simp; done) | (simp; omega) | omega))
      have hce2 := fun (o : Nat) => hb6.cell (p := ⟨w5.heap.size, o, none⟩) (by (first | (simp; done) | (simp; omega) | omega))
      have hfe2 := fun (o : Nat) => hb6.frozen (p := ⟨w5.heap.size, o, none⟩) (by (first | (simp; done) | (simp; omega) | omega))
      have hle0 : w.heap.size < w6.heap.size := by omega
      have hle1 : w.heap.size + 1 < w6.heap.size := by omega
      have hle2 : w5.heap.size < w6.heap.size := by omega
      go_wp2_with fail
      refine (c_spec_l4Copy ak aw bk bw ck cw dk dw d e _ (HD.out _ (by (repeat (first | with_reducible exact Below.refl _ _ | ((with_reducible refine bl_alloc ?_ ?_); (focus (first | (simp; done) | (simp; omega) | omega))) | ((with_reducible refine bl_set ?_ ?_); (focus (first | (simp; done) | (simp; omega) | omega))) | ((with_reducible refine bl_later ?_ ?_); (focus (first | (simp; done) | (simp; omega) | omega))) | with_reducible refine bl_drew ?_ | with_reducible refine bl_drewN ?_ | ((with_reducible refine bl_step (by assumption) ?_ ?_); (focus (first | (simp; done) | (simp; omega) | omega))))))) (HE.out _ (by (repeat (first | with_reducible exact Below.refl _ _ | ((with_reducible refine bl_alloc ?_ ?_); (focus (first | (simp; done) | (simp; omega) | omega))) | ((with_reducible refine bl_set ?_ ?_); (focus (first | (simp; done) | (simp; omega) | omega))) | ((with_reducible refine bl_later ?_ ?_); (focus (first | (simp; done) | (simp; omega) | omega))) | with_reducible refine bl_drew ?_ | with_reducible refine bl_drewN ?_ | ((with_reducible refine bl_step (by assumption) ?_ ?_); (focus (first | (simp; done) | (simp; omega) | omega))))))) (diskOk_B HO1.out) (diskOk_B HO2.out)).mono ?_
      rintro en w9 ⟨b1, k1, b2, k2, b3, k3, b4, k4, rfl, hs9, hb9⟩
      have hz9 := hb9.size
      simp only [World.size_alloc] at hz9 hs9
      have Hs9 := Lib.hid hs9
      clear hs9
      have hcz0 := fun (o : Nat) => hb9.cell (p := ⟨w.heap.size + 1, o, none⟩) (by (first | (simp; done) | (simp; omega) | omega))
      have hfz0 := fun (o : Nat) => hb9.frozen (p := ⟨w.heap.size + 1, o, none⟩) (by (first | (simp; done) | (simp; omega) | omega))
      have hlz0 : w.heap.size < w9.heap.size := by omega
      have hlz1 : w.heap.size + 1 < w9.heap.size := by omega
      go_wp2_with fail
      refine bodyPost_ret (v := .tuple #[.agg #[.slice b1 d.1.length k1, .slice b2 d.2.length k2, .slice b3 e.1.length k3, .slice b4 e.2.length k4], .bool false]) (by simp [results, Try.results33, go_sem, *]) rfl ⟨b1, k1, b2, k2, b3, k3, b4, k4, rfl, ?_, ?_⟩
      · exact (Hs9.out.kp (by (repeat (first | with_reducible exact kp_refl | ((with_reducible refine kp_alloc ?_ ?_); (focus (first | (simp; done) | (simp; omega) | omega))) | ((with_reducible refine kp_set ?_ ?_); (focus (first | (simp; done) | (simp; omega) | omega))) | with_reducible refine kp_drew ?_ | with_reducible refine kp_drewN ?_ | ((with_reducible refine kp_step (by assumption) ?_ ?_); (focus (first | (simp; done) | (simp; omega) | omega))))))).wide (by omega) (by (first | (simp; done) | (simp; omega) | omega))
      · (repeat (first | with_reducible exact Below.refl _ _ | ((with_reducible refine bl_alloc ?_ ?_); (focus (first | (simp; done) | (simp; omega) | omega))) | ((with_reducible refine bl_set ?_ ?_); (focus (first | (simp; done) | (simp; omega) | omega))) | ((with_reducible refine bl_later ?_ ?_); (focus (first | (simp; done) | (simp; omega) | omega))) | with_reducible refine bl_drew ?_ | with_reducible refine bl_drewN ?_ | ((with_reducible refine bl_step (by assumption) ?_ ?_); (focus (first | (simp; done) | (simp; omega) | omega)))))
    · skip
      go_enter Try.func33, Try.ntmps33
      go_wp2_with fail
      refine (c_spec_TwoOk ak aw bk bw ck cw dk dw d e _ (HD.out _ (by (repeat (first | with_reducible exact Below.refl _ _ | ((with_reducible refine bl_alloc ?_ ?_); (focus (first | (simp; done) | (simp; omega) | omega))) | ((with_reducible refine bl_set ?_ ?_); (focus (first | (simp; done) | (simp; omega) | omega))) | ((with_reducible refine bl_later ?_ ?_); (focus (first | (simp; done) | (simp; omega) | omega))) | with_reducible refine bl_drew ?_ | with_reducible refine bl_drewN ?_ | ((with_reducible refine bl_step (by assumption) ?_ ?_); (focus (first | (simp; done) | (simp; omega) | omega))))))) (HE.out _ (by (repeat (first | with_reducible exact Below.refl _ _ | ((with_reducible refine bl_alloc ?_ ?_); (focus (first | (simp; done) | (simp; omega) | omega))) | ((with_reducible refine bl_set ?_ ?_); (focus (first | (simp; done) | (simp; omega) | omega))) | ((with_reducible refine bl_later ?_ ?_); (focus (first | (simp; done) | (simp; omega) | omega))) | with_reducible refine bl_drew ?_ | with_reducible refine bl_drewN ?_ | ((with_reducible refine bl_step (by assumption) ?_ ?_); (focus (first | (simp; done) | (simp; omega) | omega)))))))).mono ?_
      rw [HT.out]
      rintro en w2 ⟨rfl, hb2⟩
      have hz2 := hb2.size
      simp only [World.size_alloc] at hz2
      have hca0 := fun (o : Nat) => hb2.cell (p := ⟨w.heap.size, o, none⟩) (by (first | (simp; done) | (simp; omega) | omega))
      have hfa0 := fun (o : Nat) => hb2.frozen (p := ⟨w.heap.size, o, none⟩) (by (first | (simp; done) | (simp; omega) | omega))
      have hca1 := fun (o : Nat) => hb2.cell (p := ⟨w.heap.size + 1, o, none⟩) (by (first | (simp; done) | (simp; omega) | omega))
      have hfa1 := fun (o : Nat) => hb2.frozen (p := ⟨w.heap.size + 1, o, none⟩) (by (first | (simp; done) | (simp; omega) | omega))
      have hla0 : w.heap.size < w2.heap.size := by omega
      have hla1 : w.heap.size + 1 < w2.heap.size := by omega
      go_wp2_with fail
      refine (c_spec_WithSum ar cr r _ (HRo.out _ (by (repeat (first | with_reducible exact Below.refl _ _ | ((with_reducible refine bl_alloc ?_ ?_); (focus (first | (simp; done) | (simp; omega) | omega))) | ((with_reducible refine bl_set ?_ ?_); (focus (first | (simp; done) | (simp; omega) | omega))) | ((with_reducible refine bl_later ?_ ?_); (focus (first | (simp; done) | (simp; omega) | omega))) | with_reducible refine bl_drew ?_ | with_reducible refine bl_drewN ?_ | ((with_reducible refine bl_step (by assumption) ?_ ?_); (focus (first | (simp; done) | (simp; omega) | omega)))))))).mono ?_
      rintro en w3 ⟨a3, c3, rfl, ho3, hb3⟩
      have hz3 := hb3.size
      have Ho3 := Lib.hid ho3
      clear ho3
      have hcb0 := fun (o : Nat) => hb3.cell (p := ⟨w.heap.size, o, none⟩) (by (first | (simp; done) | (simp; omega) | omega))
      have hfb0 := fun (o : Nat) => hb3.frozen (p := ⟨w.heap.size, o, none⟩) (by (first | (simp; done) | (simp; omega) | omega))
      have hcb1 := fun (o : Nat) => hb3.cell (p := ⟨w.heap.size + 1, o, none⟩) (by (first | (simp; done) | (simp; omega) | omega))
      have hfb1 := fun (o : Nat) => hb3.frozen (p := ⟨w.heap.size + 1, o, none⟩) (by (first | (simp; done) | (simp; omega) | omega))
      have hlb0 : w.heap.size < w3.heap.size := by omega
      have hlb1 : w.heap.size + 1 < w3.heap.size := by omega
      go_wp2_with fail
      refine (c_spec_Wrote ak aw ck cw d x a3 c3 (withSum r) _ (HD.out _ (by (repeat (first | with_reducible exact Below.refl _ _ | ((with_reducible refine bl_alloc ?_ ?_); (focus (first | (simp; done) | (simp; omega) | omega))) | ((with_reducible refine bl_set ?_ ?_); (focus (first | (simp; done) | (simp; omega) | omega))) | ((with_reducible refine bl_later ?_ ?_); (focus (first | (simp; done) | (simp; omega) | omega))) | with_reducible refine bl_drew ?_ | with_reducible refine bl_drewN ?_ | ((with_reducible refine bl_step (by assumption) ?_ ?_); (focus (first | (simp; done) | (simp; omega) | omega))))))) (Ho3.out.kp (by (repeat (first | with_reducible exact kp_refl | ((with_reducible refine kp_alloc ?_ ?_); (focus (first | (simp; done) | (simp; omega) | omega))) | ((with_reducible refine kp_set ?_ ?_); (focus (first | (simp; done) | (simp; omega) | omega))) | with_reducible refine kp_drew ?_ | with_reducible refine kp_drewN ?_ | ((with_reducible refine kp_step (by assumption) ?_ ?_); (focus (first | (simp; done) | (simp; omega) | omega))))))).read HO1.out).mono ?_
      rw [hca]
      rintro en w5 ⟨a5, c5, a6, c6, rfl, ho5, hb5⟩
      have hz5 := hb5.size
      have Ho5 := Lib.hid ho5
      clear ho5
      have hcd0 := fun (o : Nat) => hb5.cell (p := ⟨w.heap.size, o, none⟩) (by (first | (simp; done) | (simp; omega) | omega))
      have hfd0 := fun (o : Nat) => hb5.frozen (p := ⟨w.heap.size, o, none⟩) (by (first | (simp; done) | (simp; omega) | omega))
      have hcd1 := fun (o : Nat) => hb5.cell (p := ⟨w.heap.size + 1, o, none⟩) (by (first | (simp; done) | (simp; omega) | omega))
      have hfd1 := fun (o : Nat) => hb5.frozen (p := ⟨w.heap.size + 1, o, none⟩) (by (first | (simp; done) | (simp; omega) | omega))
      have hld0 : w.heap.size < w5.heap.size := by omega
      have hld1 : w.heap.size + 1 < w5.heap.size := by omega
      go_wp2_with fail
      refine (c_spec_Wrote bk bw dk dw e x a3 c3 (withSum r) _ (HE.out _ (by (repeat (first | with_reducible exact Below.refl _ _ | ((with_reducible refine bl_alloc ?_ ?_); (focus (first | (simp; done) | (simp; omega) | omega))) | ((with_reducible refine bl_set ?_ ?_); (focus (first | (simp; done) | (simp; omega) | omega))) | ((with_reducible refine bl_later ?_ ?_); (focus (first | (simp; done) | (simp; omega) | omega))) | with_reducible refine bl_drew ?_ | with_reducible refine bl_drewN ?_ | ((with_reducible refine bl_step (by assumption) ?_ ?_); (focus (first | (simp; done) | (simp; omega) | omega))))))) (Ho3.out.kp (by (repeat (first | with_reducible exact kp_refl | ((with_reducible refine kp_alloc ?_ ?_); (focus (first | (simp; done) | (simp; omega) | omega))) | ((with_reducible refine kp_set ?_ ?_); (focus (first | (simp; done) | (simp; omega) | omega))) | with_reducible refine kp_drew ?_ | with_reducible refine kp_drewN ?_ | ((with_reducible refine kp_step (by assumption) ?_ ?_); (focus (first | (simp; done) | (simp; omega) | omega))))))).read HO2.out).mono ?_
      rw [hcb]
      rintro en w6 ⟨a7, c7, a8, c8, rfl, ho6, hb6⟩
      have hz6 := hb6.size
      simp only [World.size_alloc] at hz6 ho6
      have Ho6 := Lib.hid ho6
      clear ho6
      have hce0 := fun (o : Nat) => hb6.cell (p := ⟨w.heap.size, o, none⟩) (by (first | (simp; done) | (simp; omega) | omega))
      have hfe0 := fun (o : Nat) => hb6.frozen (p := ⟨w.heap.size, o, none⟩) (by (first | (simp; done) | (simp; omega) | omega))
      have hce1 := fun (o : Nat) => hb6.cell (p := ⟨w.heap.size + 1, o, none⟩) (by (first | (simp; done) | (simp; omega) | omega))
      have hfe1 := fun (o : Nat) => hb6.frozen (p := ⟨w.heap.size + 1, o, none⟩) (by (first | (simp; done) | (simp; omega) | omega))
      have hce2 := fun (o : Nat) => hb6.cell (p := ⟨w5.heap.size, o, none⟩) (by (first | (simp; done) | (simp; omega) | omega))
      have hfe2 := fun (o : Nat) => hb6.frozen (p := ⟨w5.heap.size, o, none⟩) (by (first | (simp; done) | (simp; omega) | omega))
      have hle0 : w.heap.size < w6.heap.size := by omega
      have hle1 : w.heap.size + 1 < w6.heap.size := by omega
      have hle2 : w5.heap.size < w6.heap.size := by omega
      go_wp2_with fail
      refine (c_spec_l4Copy ak aw bk bw ck cw dk dw d e _ (HD.out _ (by (repeat (first | with_reducible exact Below.refl _ _ | ((with_reducible refine bl_alloc ?_ ?_); (focus (first | (simp; done) | (simp; omega) | omega))) | ((with_reducible refine bl_set ?_ ?_); (focus (first | (simp; done) | (simp; omega) | omega))) | ((with_reducible refine bl_later ?_ ?_); (focus (first | (simp; done) | (simp; omega) | omega))) | with_reducible refine bl_drew ?_ | with_reducible refine bl_drewN ?_ | ((with_reducible refine bl_step (by assumption) ?_ ?_); (focus (first | (simp; done) | (simp; omega) | omega))))))) (HE.out _ (by (repeat (first | with_reducible exact Below.refl _ _ | ((with_reducible refine bl_alloc ?_ ?_); (focus (first | (simp; done) | (simp; omega) | omega))) | ((with_reducible refine bl_set ?_ ?_); (focus (first | (simp; done) | (simp; omega) | omega))) | ((with_reducible refine bl_later ?_ ?_); (focus (first | (simp; done) | (simp; omega) | omega))) | with_reducible refine bl_drew ?_ | with_reducible refine bl_drewN ?_ | ((with_reducible refine bl_step (by assumption) ?_ ?_); (focus (first | (simp; done) | (simp; omega) | omega))))))) (diskOk_B HO1.out) (diskOk_B HO2.out)).mono ?_
      rintro en w9 ⟨b1, k1, b2, k2, b3, k3, b4, k4, rfl, hs9, hb9⟩
      have hz9 := hb9.size
      simp only [World.size_alloc] at hz9 hs9
      have Hs9 := Lib.hid hs9
      clear hs9
      have hcz0 := fun (o : Nat) => hb9.cell (p := ⟨w.heap.size + 1, o, none⟩) (by (first | (simp; done) | (simp; omega) | omega))
      have hfz0 := fun (o : Nat) => hb9.frozen (p := ⟨w.heap.size + 1, o, none⟩) (by (first | (simp; done) | (simp; omega) | omega))
      have hlz0 : w.heap.size < w9.heap.size := by omega
      have hlz1 : w.heap.size + 1 < w9.heap.size := by omega
      go_wp2_with fail
      refine bodyPost_ret (v := .tuple #[.agg #[.slice b1 d.1.length k1, .slice b2 d.2.length k2, .slice b3 e.1.length k3, .slice b4 e.2.length k4], .bool false]) (by simp [results, Try.results33, go_sem, *]) rfl ⟨b1, k1, b2, k2, b3, k3, b4, k4, rfl, ?_, ?_⟩
      · exact (Hs9.out.kp (by (repeat (first | with_reducible exact kp_refl | ((with_reducible refine kp_alloc ?_ ?_); (focus (first | (simp; done) | (simp; omega) | omega))) | ((with_reducible refine kp_set ?_ ?_); (focus (first | (simp; done) | (simp; omega) | omega))) | with_reducible refine kp_drew ?_ | with_reducible refine kp_drewN ?_ | ((with_reducible refine kp_step (by assumption) ?_ ?_); (focus (first | (simp; done) | (simp; omega) | omega))))))).wide (by omega) (by (first | (simp; done) | (simp; omega) | omega))
      · (repeat (first | with_reducible exact Below.refl _ _ | ((with_reducible refine bl_alloc ?_ ?_); (focus (first | (simp; done) | (simp; omega) | omega))) | ((with_reducible refine bl_set ?_ ?_); (focus (first | (simp; done) | (simp; omega) | omega))) | ((with_reducible refine bl_later ?_ ?_); (focus (first | (simp; done) | (simp; omega) | omega))) | with_reducible refine bl_drew ?_ | with_reducible refine bl_drewN ?_ | ((with_reducible refine bl_step (by assumption) ?_ ?_); (focus (first | (simp; done) | (simp; omega) | omega)))))
  · have hC2 : (canWrite d x (withSum r) && canWrite e x (withSum r)) = false := by
      unfold bothC at hC
      rw [decide_eq_true hs0, Bool.true_and] at hC
      exact hC
    have hsl : (withSum r).length ≠ 0 := fun h => hs0 (List.eq_nil_of_length_eq_zero h)
    have hq : ((withSum r).length == 0) = false := by simp; omega
    have hq2 : (((withSum r).length : Int) == 0) = false := by simp; omega
    clear hC hs0
    cases hca : canWrite d x (withSum r)
    · clear hC2
      cases hcb : canWrite e x (withSum r)
      · skip
        go_enter Try.func33, Try.ntmps33
        go_wp2_with fail
        refine (c_spec_TwoOk ak aw bk bw ck cw dk dw d e _ (HD.out _ (by (repeat (first | with_reducible exact Below.refl _ _ | ((with_reducible refine bl_alloc ?_ ?_); (focus (first | (simp; done) | (simp; omega) | omega))) | ((with_reducible refine bl_set ?_ ?_); (focus (first | (simp; done) | (simp; omega) | omega))) | ((with_reducible refine bl_later ?_ ?_); (focus (first | (simp; done) | (simp; omega) | omega))) | with_reducible refine bl_drew ?_ | with_reducible refine bl_drewN ?_ | ((with_reducible refine bl_step (by assumption) ?_ ?_); (focus (first | (simp; done) | (simp; omega) | omega))))))) (HE.out _ (by (repeat (first | with_reducible exact Below.refl _ _ | ((with_reducible refine bl_alloc ?_ ?_); (focus (first | (simp; done) | (simp; omega) | omega))) | ((with_reducible refine bl_set ?_ ?_); (focus (first | (simp; done) | (simp; omega) | omega))) | ((with_reducible refine bl_later ?_ ?_); (focus (first | (simp; done) | (simp; omega) | omega))) | with_reducible refine bl_drew ?_ | with_reducible refine bl_drewN ?_ | ((with_reducible refine bl_step (by assumption) ?_ ?_); (focus (first | (simp; done) | (simp; omega) | omega)))))))).mono ?_
        rw [HT.out]
        rintro en w2 ⟨rfl, hb2⟩
        have hz2 := hb2.size
        simp only [World.size_alloc] at hz2
        have hca0 := fun (o : Nat) => hb2.cell (p := ⟨w.heap.size, o, none⟩) (by (first | (simp; done) | (simp; omega) | omega))
        have hfa0 := fun (o : Nat) => hb2.frozen (p := ⟨w.heap.size, o, none⟩) (by (first | (simp; done) | (simp; omega) | omega))
        have hca1 := fun (o : Nat) => hb2.cell (p := ⟨w.heap.size + 1, o, none⟩) (by (first | (simp; done) | (simp; omega) | omega))
        have hfa1 := fun (o : Nat) => hb2.frozen (p := ⟨w.heap.size + 1, o, none⟩) (by (first | (simp; done) | (simp; omega) | omega))
        have hla0 : w.heap.size < w2.heap.size := by omega
        have hla1 : w.heap.size + 1 < w2.heap.size := by omega
        go_wp2_with fail
        refine (c_spec_WithSum ar cr r _ (HRo.out _ (by (repeat (first | with_reducible exact Below.refl _ _ | ((with_reducible refine bl_alloc ?_ ?_); (focus (first | (simp; done) | (simp; omega) | omega))) | ((with_reducible refine bl_set ?_ ?_); (focus (first | (simp; done) | (simp; omega) | omega))) | ((with_reducible refine bl_later ?_ ?_); (focus (first | (simp; done) | (simp; omega) | omega))) | with_reducible refine bl_drew ?_ | with_reducible refine bl_drewN ?_ | ((with_reducible refine bl_step (by assumption) ?_ ?_); (focus (first | (simp; done) | (simp; omega) | omega)))))))).mono ?_
        rintro en w3 ⟨a3, c3, rfl, ho3, hb3⟩
        have hz3 := hb3.size
        have Ho3 := Lib.hid ho3
        clear ho3
        have hcb0 := fun (o : Nat) => hb3.cell (p := ⟨w.heap.size, o, none⟩) (by (first | (simp; done) | (simp; omega) | omega))
        have hfb0 := fun (o : Nat) => hb3.frozen (p := ⟨w.heap.size, o, none⟩) (by (first | (simp; done) | (simp; omega) | omega))
        have hcb1 := fun (o : Nat) => hb3.cell (p := ⟨w.heap.size + 1, o, none⟩) (by (first | (simp; done) | (simp; omega) | omega))
        have hfb1 := fun (o : Nat) => hb3.frozen (p := ⟨w.heap.size + 1, o, none⟩) (by (first | (simp; done) | (simp; omega) | omega))
        have hlb0 : w.heap.size < w3.heap.size := by omega
        have hlb1 : w.heap.size + 1 < w3.heap.size := by omega
        go_wp2_with fail
        refine (c_spec_Wrote ak aw ck cw d x a3 c3 (withSum r) _ (HD.out _ (by (repeat (first | with_reducible exact Below.refl _ _ | ((with_reducible refine bl_alloc ?_ ?_); (focus (first | (simp; done) | (simp; omega) | omega))) | ((with_reducible refine bl_set ?_ ?_); (focus (first | (simp; done) | (simp; omega) | omega))) | ((with_reducible refine bl_later ?_ ?_); (focus (first | (simp; done) | (simp; omega) | omega))) | with_reducible refine bl_drew ?_ | with_reducible refine bl_drewN ?_ | ((with_reducible refine bl_step (by assumption) ?_ ?_); (focus (first | (simp; done) | (simp; omega) | omega))))))) (Ho3.out.kp (by (repeat (first | with_reducible exact kp_refl | ((with_reducible refine kp_alloc ?_ ?_); (focus (first | (simp; done) | (simp; omega) | omega))) | ((with_reducible refine kp_set ?_ ?_); (focus (first | (simp; done) | (simp; omega) | omega))) | with_reducible refine kp_drew ?_ | with_reducible refine kp_drewN ?_ | ((with_reducible refine kp_step (by assumption) ?_ ?_); (focus (first | (simp; done) | (simp; omega) | omega))))))).read HO1.out).mono ?_
        rw [hca]
        rintro en w5 ⟨a5, c5, a6, c6, rfl, ho5, hb5⟩
        have hz5 := hb5.size
        have Ho5 := Lib.hid ho5
        clear ho5
        have hcd0 := fun (o : Nat) => hb5.cell (p := ⟨w.heap.size, o, none⟩) (by (first | (simp; done) | (simp; omega) | omega))
        have hfd0 := fun (o : Nat) => hb5.frozen (p := ⟨w.heap.size, o, none⟩) (by (first | (simp; done) | (simp; omega) | omega))
        have hcd1 := fun (o : Nat) => hb5.cell (p := ⟨w.heap.size + 1, o, none⟩) (by (first | (simp; done) | (simp; omega) | omega))
        have hfd1 := fun (o : Nat) => hb5.frozen (p := ⟨w.heap.size + 1, o, none⟩) (by (first | (simp; done) | (simp; omega) | omega))
        have hld0 : w.heap.size < w5.heap.size := by omega
        have hld1 : w.heap.size + 1 < w5.heap.size := by omega
        go_wp2_with fail
        refine (c_spec_Wrote bk bw dk dw e x a3 c3 (withSum r) _ (HE.out _ (by (repeat (first | with_reducible exact Below.refl _ _ | ((with_reducible refine bl_alloc ?_ ?_); (focus (first | (simp; done) | (simp; omega) | omega))) | ((with_reducible refine bl_set ?_ ?_); (focus (first | (simp; done) | (simp; omega) | omega))) | ((with_reducible refine bl_later ?_ ?_); (focus (first | (simp; done) | (simp; omega) | omega))) | with_reducible refine bl_drew ?_ | with_reducible refine bl_drewN ?_ | ((with_reducible refine bl_step (by assumption) ?_ ?_); (focus (first | (simp; done) | (simp; omega) | omega))))))) (Ho3.out.kp (by (repeat (first | with_reducible exact kp_refl | ((with_reducible refine kp_alloc ?_ ?_); (focus (first | (simp; done) | (simp; omega) | omega))) | ((with_reducible refine kp_set ?_ ?_); (focus (first | (simp; done) | (simp; omega) | omega))) | with_reducible refine kp_drew ?_ | with_reducible refine kp_drewN ?_ | ((with_reducible refine kp_step (by assumption) ?_ ?_); (focus (first | (simp; done) | (simp; omega) | omega))))))).read HO2.out).mono ?_
        rw [hcb]
        rintro en w6 ⟨a7, c7, a8, c8, rfl, ho6, hb6⟩
        have hz6 := hb6.size
        simp only [World.size_alloc] at hz6 ho6
        have Ho6 := Lib.hid ho6
        clear ho6
        have hce0 := fun (o : Nat) => hb6.cell (p := ⟨w.heap.size, o, none⟩) (by (first | (simp; done) | (simp; omega) | omega))
        have hfe0 := fun (o : Nat) => hb6.frozen (p := ⟨w.heap.size, o, none⟩) (by (first | (simp; done) | (simp; omega) | omega))
        have hce1 := fun (o : Nat) => hb6.cell (p := ⟨w.heap.size + 1, o, none⟩) (by (first | (simp; done) | (simp; omega) | omega))
        have hfe1 := fun (o : Nat) => hb6.frozen (p := ⟨w.heap.size + 1, o, none⟩) (by (first | (simp; done) | (simp; omega) | omega))
        have hce2 := fun (o : Nat) => hb6.cell (p := ⟨w5.heap.size, o, none⟩) (by (first | (simp; done) | (simp; omega) | omega))
        have hfe2 := fun (o : Nat) => hb6.frozen (p := ⟨w5.heap.size, o, none⟩) (by (first | (simp; done) | (simp; omega) | omega))
        have hle0 : w.heap.size < w6.heap.size := by omega
        have hle1 : w.heap.size + 1 < w6.heap.size := by omega
        have hle2 : w5.heap.size < w6.heap.size := by omega
        go_wp2_with fail
        refine (c_spec_l4Copy ak aw bk bw ck cw dk dw d e _ (HD.out _ (by (repeat (first | with_reducible exact Below.refl _ _ | ((with_reducible refine bl_alloc ?_ ?_); (focus (first | (simp; done) | (simp; omega) | omega))) | ((with_reducible refine bl_set ?_ ?_); (focus (first | (simp; done) | (simp; omega) | omega))) | ((with_reducible refine bl_later ?_ ?_); (focus (first | (simp; done) | (simp; omega) | omega))) | with_reducible refine bl_drew ?_ | with_reducible refine bl_drewN ?_ | ((with_reducible refine bl_step (by assumption) ?_ ?_); (focus (first | (simp; done) | (simp; omega) | omega))))))) (HE.out _ (by (repeat (first | with_reducible exact Below.refl _ _ | ((with_reducible refine bl_alloc ?_ ?_); (focus (first | (simp; done) | (simp; omega) | omega))) | ((with_reducible refine bl_set ?_ ?_); (focus (first | (simp; done) | (simp; omega) | omega))) | ((with_reducible refine bl_later ?_ ?_); (focus (first | (simp; done) | (simp; omega) | omega))) | with_reducible refine bl_drew ?_ | with_reducible refine bl_drewN ?_ | ((with_reducible refine bl_step (by assumption) ?_ ?_); (focus (first | (simp; done) | (simp; omega) | omega))))))) (diskOk_B HO1.out) (diskOk_B HO2.out)).mono ?_
        rintro en w9 ⟨b1, k1, b2, k2, b3, k3, b4, k4, rfl, hs9, hb9⟩
        have hz9 := hb9.size
        simp only [World.size_alloc] at hz9 hs9
        have Hs9 := Lib.hid hs9
        clear hs9
        have hcz0 := fun (o : Nat) => hb9.cell (p := ⟨w.heap.size + 1, o, none⟩) (by (first | (simp; done) | (simp; omega) | omega))
        have hfz0 := fun (o : Nat) => hb9.frozen (p := ⟨w.heap.size + 1, o, none⟩) (by (first | (simp; done) | (simp; omega) | omega))
        have hlz0 : w.heap.size < w9.heap.size := by omega
        have hlz1 : w.heap.size + 1 < w9.heap.size := by omega
        go_wp2_with fail
        refine bodyPost_ret (v := .tuple #[.agg #[.slice b1 d.1.length k1, .slice b2 d.2.length k2, .slice b3 e.1.length k3, .slice b4 e.2.length k4], .bool false]) (by simp [results, Try.results33, go_sem, *]) rfl ⟨b1, k1, b2, k2, b3, k3, b4, k4, rfl, ?_, ?_⟩
        · exact (Hs9.out.kp (by (repeat (first | with_reducible exact kp_refl | ((with_reducible refine kp_alloc ?_ ?_); (focus (first | (simp; done) | (simp; omega) | omega))) | ((with_reducible refine kp_set ?_ ?_); (focus (first | (simp; done) | (simp; omega) | omega))) | with_reducible refine kp_drew ?_ | with_reducible refine kp_drewN ?_ | ((with_reducible refine kp_step (by assumption) ?_ ?_); (focus (first | (simp; done) | (simp; omega) | omega))))))).wide (by omega) (by (first | (simp; done) | (simp; omega) | omega))
        · (repeat (first | with_reducible exact Below.refl _ _ | ((with_reducible refine bl_alloc ?_ ?_); (focus (first | (simp; done) | (simp; omega) | omega))) | ((with_reducible refine bl_set ?_ ?_); (focus (first | (simp; done) | (simp; omega) | omega))) | ((with_reducible refine bl_later ?_ ?_); (focus (first | (simp; done) | (simp; omega) | omega))) | with_reducible refine bl_drew ?_ | with_reducible refine bl_drewN ?_ | ((with_reducible refine bl_step (by assumption) ?_ ?_); (focus (first | (simp; done) | (simp; omega) | omega)))))
      · skip
        go_enter Try.func33, Try.ntmps33
        go_wp2_with fail
        refine (c_spec_TwoOk ak aw bk bw ck cw dk dw d e _ (HD.out _ (by (repeat (first | with_reducible exact Below.refl _ _ | ((with_reducible refine bl_alloc ?_ ?_); (focus (first | (simp; done) | (simp; omega) | omega))) | ((with_reducible refine bl_set ?_ ?_); (focus (first | (simp; done) | (simp; omega) | omega))) | ((with_reducible refine bl_later ?_ ?_); (focus (first | (simp; done) | (simp; omega) | omega))) | with_reducible refine bl_drew ?_ | with_reducible refine bl_drewN ?_ | ((with_reducible refine bl_step (by assumption) ?_ ?_); (focus (first | (simp; done) | (simp; omega) | omega))))))) (HE.out _ (by (repeat (first | with_reducible exact Below.refl _ _ | ((with_reducible refine bl_alloc ?_ ?_); (focus (first | (simp; done) | (simp; omega) | omega))) | ((with_reducible refine bl_set ?_ ?_); (focus (first | (simp; done) | (simp; omega) | omega))) | ((with_reducible refine bl_later ?_ ?_); (focus (first | (simp; done) | (simp; omega) | omega))) | with_reducible refine bl_drew ?_ | with_reducible refine bl_drewN ?_ | ((with_reducible refine bl_step (by assumption) ?_ ?_); (focus (first | (simp; done) | (simp; omega) | omega)))))))).mono ?_
        rw [HT.out]
        rintro en w2 ⟨rfl, hb2⟩
        have hz2 := hb2.size
        simp only [World.size_alloc] at hz2
        have hca0 := fun (o : Nat) => hb2.cell (p := ⟨w.heap.size, o, none⟩) (by (first | (simp; done) | (simp; omega) | omega))
        have hfa0 := fun (o : Nat) => hb2.frozen (p := ⟨w.heap.size, o, none⟩) (by (first | (simp; done) | (simp; omega) | omega))
        have hca1 := fun (o : Nat) => hb2.cell (p := ⟨w.heap.size + 1, o, none⟩) (by (first | (simp; done) | (simp; omega) | omega))
        have hfa1 := fun (o : Nat) => hb2.frozen (p := ⟨w.heap.size + 1, o, none⟩) (by (first | (simp; done) | (simp; omega) | omega))
        have hla0 : w.heap.size < w2.heap.size := by omega
        have hla1 : w.heap.size + 1 < w2.heap.size := by omega
        go_wp2_with fail
        refine (c_spec_WithSum ar cr r _ (HRo.out _ (by (repeat (first | with_reducible exact Below.refl _ _ | ((with_reducible refine bl_alloc ?_ ?_); (focus (first | (simp; done) | (simp; omega) | omega))) | ((with_reducible refine bl_set ?_ ?_); (focus (first | (simp; done) | (simp; omega) | omega))) | ((with_reducible refine bl_later ?_ ?_); (focus (first | (simp; done) | (simp; omega) | omega))) | with_reducible refine bl_drew ?_ | with_reducible refine bl_drewN ?_ | ((with_reducible refine bl_step (by assumption) ?_ ?_); (focus (first | (simp; done) | (simp; omega) | omega)))))))).mono ?_
        rintro en w3 ⟨a3, c3, rfl, ho3, hb3⟩
        have hz3 := hb3.size
        have Ho3 := Lib.hid ho3
        clear ho3
        have hcb0 := fun (o : Nat) => hb3.cell (p := ⟨w.heap.size, o, none⟩) (by (first | (simp; done) | (simp; omega) | omega))
        have hfb0 := fun (o : Nat) => hb3.frozen (p := ⟨w.heap.size, o, none⟩) (by (first | (simp; done) | (simp; omega) | omega))
        have hcb1 := fun (o : Nat) => hb3.cell (p := ⟨w.heap.size + 1, o, none⟩) (by (first | (simp; done) | (simp; omega) | omega))
        have hfb1 := fun (o : Nat) => hb3.frozen (p := ⟨w.heap.size + 1, o, none⟩) (by (first | (simp; done) | (simp; omega) | omega))
        have hlb0 : w.heap.size < w3.heap.size := by omega
        have hlb1 : w.heap.size + 1 < w3.heap.size := by omega
        go_wp2_with fail
        refine (c_spec_Wrote ak aw ck cw d x a3 c3 (withSum r) _ (HD.out _ (by (repeat (first | with_reducible exact Below.refl _ _ | ((with_reducible refine bl_alloc ?_ ?_); (focus (first | (simp; done) | (simp; omega) | omega))) | ((with_reducible refine bl_set ?_ ?_); (focus (first | (simp; done) | (simp; omega) | omega))) | ((with_reducible refine bl_later ?_ ?_); (focus (first | (simp; done) | (simp; omega) | omega))) | with_reducible refine bl_drew ?_ | with_reducible refine bl_drewN ?_ | ((with_reducible refine bl_step (by assumption) ?_ ?_); (focus (first | (simp; done) | (simp; omega) | omega))))))) (Ho3.out.kp (by (repeat (first | with_reducible exact kp_refl | ((with_reducible refine kp_alloc ?_ ?_); (focus (first | (simp; done) | (simp; omega) | omega))) | ((with_reducible refine kp_set ?_ ?_); (focus (first | (simp; done) | (simp; omega) | omega))) | with_reducible refine kp_drew ?_ | with_reducible refine kp_drewN ?_ | ((with_reducible refine kp_step (by assumption) ?_ ?_); (focus (first | (simp; done) | (simp; omega) | omega))))))).read HO1.out).mono ?_
        rw [hca]
        rintro en w5 ⟨a5, c5, a6, c6, rfl, ho5, hb5⟩
        have hz5 := hb5.size
        have Ho5 := Lib.hid ho5
        clear ho5
        have hcd0 := fun (o : Nat) => hb5.cell (p := ⟨w.heap.size, o, none⟩) (by (first | (simp; done) | (simp; omega) | omega))
        have hfd0 := fun (o : Nat) => hb5.frozen (p := ⟨w.heap.size, o, none⟩) (by (first | (simp; done) | (simp; omega) | omega))
        have hcd1 := fun (o : Nat) => hb5.cell (p := ⟨w.heap.size + 1, o, none⟩) (by (first | (simp; done) | (simp; omega) | omega))
        have hfd1 := fun (o : Nat) => hb5.frozen (p := ⟨w.heap.size + 1, o, none⟩) (by (first | (simp; done) | (simp; omega) | omega))
        have hld0 : w.heap.size < w5.heap.size := by omega
        have hld1 : w.heap.size + 1 < w5.heap.size := by omega
        go_wp2_with fail
        refine (c_spec_Wrote bk bw dk dw e x a3 c3 (withSum r) _ (HE.out _ (by (repeat (first | with_reducible exact Below.refl _ _ | ((with_reducible refine bl_alloc ?_ ?_); (focus (first | (simp; done) | (simp; omega) | omega))) | ((with_reducible refine bl_set ?_ ?_); (focus (first | (simp; done) | (simp; omega) | omega))) | ((with_reducible refine bl_later ?_ ?_); (focus (first | (simp; done) | (simp; omega) | omega))) | with_reducible refine bl_drew ?_ | with_reducible refine bl_drewN ?_ | ((with_reducible refine bl_step (by assumption) ?_ ?_); (focus (first | (simp; done) | (simp; omega) | omega))))))) (Ho3.out.kp (by (repeat (first | with_reducible exact kp_refl | ((with_reducible refine kp_alloc ?_ ?_); (focus (first | (simp; done) | (simp; omega) | omega))) | ((with_reducible refine kp_set ?_ ?_); (focus (first | (simp; done) | (simp; omega) | omega))) | with_reducible refine kp_drew ?_ | with_reducible refine kp_drewN ?_ | ((with_reducible refine kp_step (by assumption) ?_ ?_); (focus (first | (simp; done) | (simp; omega) | omega))))))).read HO2.out).mono ?_
        rw [hcb]
        rintro en w6 ⟨a7, c7, a8, c8, rfl, ho6, hb6⟩
        have hz6 := hb6.size
        simp only [World.size_alloc] at hz6 ho6
        have Ho6 := Lib.hid ho6
        clear ho6
        have hce0 := fun (o : Nat) => hb6.cell (p := ⟨w.heap.size, o, none⟩) (by (first | (simp; done) | (simp; omega) | omega))
        have hfe0 := fun (o : Nat) => hb6.frozen (p := ⟨w.heap.size, o, none⟩) (by (first | (simp; done) | (simp; omega) | omega))
        have hce1 := fun (o : Nat) => hb6.cell (p := ⟨w.heap.size + 1, o, none⟩) (by (first | (simp; done) | (simp; omega) | omega))
        have hfe1 := fun (o : Nat) => hb6.frozen (p := ⟨w.heap.size + 1, o, none⟩) (by (first | (simp; done) | (simp; omega) | omega))
        have hce2 := fun (o : Nat) => hb6.cell (p := ⟨w5.heap.size, o, none⟩) (by (first | (simp; done) | (simp; omega) | omega))
        have hfe2 := fun (o : Nat) => hb6.frozen (p := ⟨w5.heap.size, o, none⟩) (by (first | (simp; done) | (simp; omega) | omega))
        have hle0 : w.heap.size < w6.heap.size := by omega
        have hle1 : w.heap.size + 1 < w6.heap.size := by omega
        have hle2 : w5.heap.size < w6.heap.size := by omega
        go_wp2_with fail
        refine (c_spec_l4Copy ak aw bk bw ck cw dk dw d e _ (HD.out _ (by (repeat (first | with_reducible exact Below.refl _ _ | ((with_reducible refine bl_alloc ?_ ?_); (focus (first | (simp; done) | (simp; omega) | omega))) | ((with_reducible refine bl_set ?_ ?_); (focus (first | (simp; done) | (simp; omega) | omega))) | ((with_reducible refine bl_later ?_ ?_); (focus (first | (simp; done) | (simp; omega) | omega))) | with_reducible refine bl_drew ?_ | with_reducible refine bl_drewN ?_ | ((with_reducible refine bl_step (by assumption) ?_ ?_); (focus (first | (simp; done) | (simp; omega) | omega))))))) (HE.out _ (by (repeat (first | with_reducible exact Below.refl _ _ | ((with_reducible refine bl_alloc ?_ ?_); (focus (first | (simp; done) | (simp; omega) | omega))) | ((with_reducible refine bl_set ?_ ?_); (focus (first | (simp; done) | (simp; omega) | omega))) | ((with_reducible refine bl_later ?_ ?_); (focus (first | (simp; done) | (simp; omega) | omega))) | with_reducible refine bl_drew ?_ | with_reducible refine bl_drewN ?_ | ((with_reducible refine bl_step (by assumption) ?_ ?_); (focus (first | (simp; done) | (simp; omega) | omega))))))) (diskOk_B HO1.out) (diskOk_B HO2.out)).mono ?_
        rintro en w9 ⟨b1, k1, b2, k2, b3, k3, b4, k4, rfl, hs9, hb9⟩
        have hz9 := hb9.size
        simp only [World.size_alloc] at hz9 hs9
        have Hs9 := Lib.hid hs9
        clear hs9
        have hcz0 := fun (o : Nat) => hb9.cell (p := ⟨w.heap.size + 1, o, none⟩) (by (first | (simp; done) | (simp; omega) | omega))
        have hfz0 := fun (o : Nat) => hb9.frozen (p := ⟨w.heap.size + 1, o, none⟩) (by (first | (simp; done) | (simp; omega) | omega))
        have hlz0 : w.heap.size < w9.heap.size := by omega
        have hlz1 : w.heap.size + 1 < w9.heap.size := by omega
        go_wp2_with fail
        refine bodyPost_ret (v := .tuple #[.agg #[.slice b1 d.1.length k1, .slice b2 d.2.length k2, .slice b3 e.1.length k3, .slice b4 e.2.length k4], .bool false]) (by simp [results, Try.results33, go_sem, *]) rfl ⟨b1, k1, b2, k2, b3, k3, b4, k4, rfl, ?_, ?_⟩
        · exact (Hs9.out.kp (by (repeat (first | with_reducible exact kp_refl | ((with_reducible refine kp_alloc ?_ ?_); (focus (first | (simp; done) | (simp; omega) | omega))) | ((with_reducible refine kp_set ?_ ?_); (focus (first | (simp; done) | (simp; omega) | omega))) | with_reducible refine kp_drew ?_ | with_reducible refine kp_drewN ?_ | ((with_reducible refine kp_step (by assumption) ?_ ?_); (focus (first | (simp; done) | (simp; omega) | omega))))))).wide (by omega) (by (first | (simp; done) | (simp; omega) | omega))
        · (repeat (first | with_reducible exact Below.refl _ _ | ((with_reducible refine bl_alloc ?_ ?_); (focus (first | (simp; done) | (simp; omega) | omega))) | ((with_reducible refine bl_set ?_ ?_); (focus (first | (simp; done) | (simp; omega) | omega))) | ((with_reducible refine bl_later ?_ ?_); (focus (first | (simp; done) | (simp; omega) | omega))) | with_reducible refine bl_drew ?_ | with_reducible refine bl_drewN ?_ | ((with_reducible refine bl_step (by assumption) ?_ ?_); (focus (first | (simp; done) | (simp; omega) | omega)))))
    · have hcb : canWrite e x (withSum r) = false := by rw [hca, Bool.true_and] at hC2; exact hC2
      clear hC2
      go_enter Try.func33, Try.ntmps33
      go_wp2_with fail
      refine (c_spec_TwoOk ak aw bk bw ck cw dk dw d e _ (HD.out _ (by (repeat (first | with_reducible exact Below.refl _ _ | ((with_reducible refine bl_alloc ?_ ?_); (focus (first | (simp; done) | (simp; omega) | omega))) | ((with_reducible refine bl_set ?_ ?_); (focus (first | (simp; done) | (simp; omega) | omega))) | ((with_reducible refine bl_later ?_ ?_); (focus (first | (simp; done) | (simp; omega) | omega))) | with_reducible refine bl_drew ?_ | with_reducible refine bl_drewN ?_ | ((with_reducible refine bl_step (by assumption) ?_ ?_); (focus (first | (simp; done) | (simp; omega) | omega))))))) (HE.out _ (by (repeat (first | with_reducible exact Below.refl _ _ | ((with_reducible refine bl_alloc ?_ ?_); (focus (first | (simp; done) | (simp; omega) | omega))) | ((with_reducible refine bl_set ?_ ?_); (focus (first | (simp; done) | (simp; omega) | omega))) | ((with_reducible refine bl_later ?_ ?_); (focus (first | (simp; done) | (simp; omega) | omega))) | with_reducible refine bl_drew ?_ | with_reducible refine bl_drewN ?_ | ((with_reducible refine bl_step (by assumption) ?_ ?_); (focus (first | (simp; done) | (simp; omega) | omega)))))))).mono ?_
      rw [HT.out]
      rintro en w2 ⟨rfl, hb2⟩
      have hz2 := hb2.size
      simp only [World.size_alloc] at hz2
      have hca0 := fun (o : Nat) => hb2.cell (p := ⟨w.heap.size, o, none⟩) (by (first | (simp; done) | (simp; omega) | omega))
      have hfa0 := fun (o : Nat) => hb2.frozen (p := ⟨w.heap.size, o, none⟩) (by (first | (simp; done) | (simp; omega) | omega))
      have hca1 := fun (o : Nat) => hb2.cell (p := ⟨w.heap.size + 1, o, none⟩) (by (first | (simp; done) | (simp; omega) | omega))
      have hfa1 := fun (o : Nat) => hb2.frozen (p := ⟨w.heap.size + 1, o, none⟩) (by (first | (simp; done) | (simp; omega) | omega))
      have hla0 : w.heap.size < w2.heap.size := by omega
      have hla1 : w.heap.size + 1 < w2.heap.size := by omega
      go_wp2_with fail
      refine (c_spec_WithSum ar cr r _ (HRo.out _ (by (repeat (first | with_reducible exact Below.refl _ _ | ((with_reducible refine bl_alloc ?_ ?_); (focus (first | (simp; done) | (simp; omega) | omega))) | ((with_reducible refine bl_set ?_ ?_); (focus (first | (simp; done) | (simp; omega) | omega))) | ((with_reducible refine bl_later ?_ ?_); (focus (first | (simp; done) | (simp; omega) | omega))) | with_reducible refine bl_drew ?_ | with_reducible refine bl_drewN ?_ | ((with_reducible refine bl_step (by assumption) ?_ ?_); (focus (first | (simp; done) | (simp; omega) | omega)))))))).mono ?_
      rintro en w3 ⟨a3, c3, rfl, ho3, hb3⟩
      have hz3 := hb3.size
      have Ho3 := Lib.hid ho3
      clear ho3
      have hcb0 := fun (o : Nat) => hb3.cell (p := ⟨w.heap.size, o, none⟩) (by (first | (simp; done) | (simp; omega) | omega))
      have hfb0 := fun (o : Nat) => hb3.frozen (p := ⟨w.heap.size, o, none⟩) (by (first | (simp; done) | (simp; omega) | omega))
      have hcb1 := fun (o : Nat) => hb3.cell (p := ⟨w.heap.size + 1, o, none⟩) (by (first | (simp; done) | (simp; omega) | omega))
      have hfb1 := fun (o : Nat) => hb3.frozen (p := ⟨w.heap.size + 1, o, none⟩) (by (first | (simp; done) | (simp; omega) | omega))
      have hlb0 : w.heap.size < w3.heap.size := by omega
      have hlb1 : w.heap.size + 1 < w3.heap.size := by omega
      go_wp2_with fail
      refine (c_spec_Wrote ak aw ck cw d x a3 c3 (withSum r) _ (HD.out _ (by (repeat (first | with_reducible exact Below.refl _ _ | ((with_reducible refine bl_alloc ?_ ?_); (focus (first | (simp; done) | (simp; omega) | omega))) | ((with_reducible refine bl_set ?_ ?_); (focus (first | (simp; done) | (simp; omega) | omega))) | ((with_reducible refine bl_later ?_ ?_); (focus (first | (simp; done) | (simp; omega) | omega))) | with_reducible refine bl_drew ?_ | with_reducible refine bl_drewN ?_ | ((with_reducible refine bl_step (by assumption) ?_ ?_); (focus (first | (simp; done) | (simp; omega) | omega))))))) (Ho3.out.kp (by (repeat (first | with_reducible exact kp_refl | ((with_reducible refine kp_alloc ?_ ?_); (focus (first | (simp; done) | (simp; omega) | omega))) | ((with_reducible refine kp_set ?_ ?_); (focus (first | (simp; done) | (simp; omega) | omega))) | with_reducible refine kp_drew ?_ | with_reducible refine kp_drewN ?_ | ((with_reducible refine kp_step (by assumption) ?_ ?_); (focus (first | (simp; done) | (simp; omega) | omega))))))).read HO1.out).mono ?_
      rw [hca]
      rintro en w5 ⟨a5, c5, a6, c6, rfl, ho5, hb5⟩
      have hz5 := hb5.size
      have Ho5 := Lib.hid ho5
      clear ho5
      have hcd0 := fun (o : Nat) => hb5.cell (p := ⟨w.heap.size, o, none⟩) (by (first | (simp; done) | (simp; omega) | omega))
      have hfd0 := fun (o : Nat) => hb5.frozen (p := ⟨w.heap.size, o, none⟩) (by (first | (simp; done) | (simp; omega) | omega))
      have hcd1 := fun (o : Nat) => hb5.cell (p := ⟨w.heap.size + 1, o, none⟩) (by (first | (simp; done) | (simp; omega) | omega))
      have hfd1 := fun (o : Nat) => hb5.frozen (p := ⟨w.heap.size + 1, o, none⟩) (by (first | (simp; done) | (simp; omega) | omega))
      have hld0 : w.heap.size < w5.heap.size := by omega
      have hld1 : w.heap.size + 1 < w5.heap.size := by omega
      go_wp2_with fail
      refine (c_spec_Wrote bk bw dk dw e x a3 c3 (withSum r) _ (HE.out _ (by (repeat (first | with_reducible exact Below.refl _ _ | ((with_reducible refine bl_alloc ?_ ?_); (focus (first | (simp; done) | (simp; omega) | omega))) | ((with_reducible refine bl_set ?_ ?_); (focus (first | (simp; done) | (simp; omega) | omega))) | ((with_reducible refine bl_later ?_ ?_); (focus (first | (simp; done) | (simp; omega) | omega))) | with_reducible refine bl_drew ?_ | with_reducible refine bl_drewN ?_ | ((with_reducible refine bl_step (by assumption) ?_ ?_); (focus (first | (simp; done) | (simp; omega) | omega))))))) (Ho3.out.kp (by (repeat (first | with_reducible exact kp_refl | ((with_reducible refine kp_alloc ?_ ?_); (focus (first | (simp; done) | (simp; omega) | omega))) | ((with_reducible refine kp_set ?_ ?_); (focus (first | (simp; done) | (simp; omega) | omega))) | with_reducible refine kp_drew ?_ | with_reducible refine kp_drewN ?_ | ((with_reducible refine kp_step (by assumption) ?_ ?_); (focus (first | (simp; done) | (simp; omega) | omega))))))).read HO2.out).mono ?_
      rw [hcb]
      rintro en w6 ⟨a7, c7, a8, c8, rfl, ho6, hb6⟩
      have hz6 := hb6.size
      simp only [World.size_alloc] at hz6 ho6
      have Ho6 := Lib.hid ho6
      clear ho6
      have hce0 := fun (o : Nat) => hb6.cell (p := ⟨w.heap.size, o, none⟩) (by (first | (simp; done) | (simp; omega) | omega))
      have hfe0 := fun (o : Nat) => hb6.frozen (p := ⟨w.heap.size, o, none⟩) (by (first | (simp; done) | (simp; omega) | omega))
      have hce1 := fun (o : Nat) => hb6.cell (p := ⟨w.heap.size + 1, o, none⟩) (by (first | (simp; done) | (simp; omega) | omega))
      have hfe1 := fun (o : Nat) => hb6.frozen (p := ⟨w.heap.size + 1, o, none⟩) (by (first | (simp; done) | (simp; omega) | omega))
      have hce2 := fun (o : Nat) => hb6.cell (p := ⟨w5.heap.size, o, none⟩) (by (first | (simp; done) | (simp; omega) | omega))
      have hfe2 := fun (o : Nat) => hb6.frozen (p := ⟨w5.heap.size, o, none⟩) (by (first | (simp; done) | (simp; omega) | omega))
      have hle0 : w.heap.size < w6.heap.size := by omega
      have hle1 : w.heap.size + 1 < w6.heap.size := by omega
      have hle2 : w5.heap.size < w6.heap.size := by omega
      go_wp2_with fail
      refine (c_spec_l4Copy ak aw bk bw ck cw dk dw d e _ (HD.out _ (by (repeat (first | with_reducible exact Below.refl _ _ | ((with_reducible refine bl_alloc ?_ ?_); (focus (first | (simp; done) | (simp; omega) | omega))) | ((with_reducible refine bl_set ?_ ?_); (focus (first | (simp; done) | (simp; omega) | omega))) | ((with_reducible refine bl_later ?_ ?_); (focus (first | (simp; done) | (simp; omega) | omega))) | with_reducible refine bl_drew ?_ | with_reducible refine bl_drewN ?_ | ((with_reducible refine bl_step (by assumption) ?_ ?_); (focus (first | (simp; done) | (simp; omega) | omega))))))) (HE.out _ (by (repeat (first | with_reducible exact Below.refl _ _ | ((with_reducible refine bl_alloc ?_ ?_); (focus (first | (simp; done) | (simp; omega) | omega))) | ((with_reducible refine bl_set ?_ ?_); (focus (first | (simp; done) | (simp; omega) | omega))) | ((with_reducible refine bl_later ?_ ?_); (focus (first | (simp; done) | (simp; omega) | omega))) | with_reducible refine bl_drew ?_ | with_reducible refine bl_drewN ?_ | ((with_reducible refine bl_step (by assumption) ?_ ?_); (focus (first | (simp; done) | (simp; omega) | omega))))))) (diskOk_B HO1.out) (diskOk_B HO2.out)).mono ?_
      rintro en w9 ⟨b1, k1, b2, k2, b3, k3, b4, k4, rfl, hs9, hb9⟩
      have hz9 := hb9.size
      simp only [World.size_alloc] at hz9 hs9
      have Hs9 := Lib.hid hs9
      clear hs9
      have hcz0 := fun (o : Nat) => hb9.cell (p := ⟨w.heap.size + 1, o, none⟩) (by (first | (simp; done) | (simp; omega) | omega))
      have hfz0 := fun (o : Nat) => hb9.frozen (p := ⟨w.heap.size + 1, o, none⟩) (by (first | (simp; done) | (simp; omega) | omega))
      have hlz0 : w.heap.size < w9.heap.size := by omega
      have hlz1 : w.heap.size + 1 < w9.heap.size := by omega
      go_wp2_with fail
      refine bodyPost_ret (v := .tuple #[.agg #[.slice b1 d.1.length k1, .slice b2 d.2.length k2, .slice b3 e.1.length k3, .slice b4 e.2.length k4], .bool false]) (by simp [results, Try.results33, go_sem, *]) rfl ⟨b1, k1, b2, k2, b3, k3, b4, k4, rfl, ?_, ?_⟩
      · exact (Hs9.out.kp (by (repeat (first | with_reducible exact kp_refl | ((with_reducible refine kp_alloc ?_ ?_); (focus (first | (simp; done) | (simp; omega) | omega))) | ((with_reducible refine kp_set ?_ ?_); (focus (first | (simp; done) | (simp; omega) | omega))) | with_reducible refine kp_drew ?_ | with_reducible refine kp_drewN ?_ | ((with_reducible refine kp_step (by assumption) ?_ ?_); (focus (first | (simp; done) | (simp; omega) | omega))))))).wide (by omega) (by (first | (simp; done) | (simp; omega) | omega))
      · (repeat (first | with_reducible exact Below.refl _ _ | ((with_reducible refine bl_alloc ?_ ?_); (focus (first | (simp; done) | (simp; omega) | omega))) | ((with_reducible refine bl_set ?_ ?_); (focus (first | (simp; done) | (simp; omega) | omega))) | ((with_reducible refine bl_later ?_ ?_); (focus (first | (simp; done) | (simp; omega) | omega))) | with_reducible refine bl_drew ?_ | with_reducible refine bl_drewN ?_ | ((with_reducible refine bl_step (by assumption) ?_ ?_); (focus (first | (simp; done) | (simp; omega) | omega)))))
theorem c_spec_BothWrote_y (ak aw bk bw : Option Addr) (ck cw dk dw : Nat) (d e : List (List Int) × List (Int × List Int)) (x : Int) (ar : Option Addr) (cr : Nat) (r : List Int) (w : World) (h : DiskR w ak aw d) (h2 : DiskR w bk bw e) (hr : IntsR w ar r) (hT : twoOk d e = true) (hC : bothC d e x r = true) :
    Calls Try.prog 33 #[.agg #[.slice ak d.1.length ck, .slice aw d.2.length cw, .slice bk e.1.length dk, .slice bw e.2.length dw], .int .i64 x, .slice ar r.length cr] w fun en w' => ∃ a1 c1 a2 c2 a3 c3 a4 c4, en = .returned (.tuple #[.agg #[.slice a1 d.1.length c1, .slice a2 (d.2 ++ [(x, withSum r)]).length c2, .slice a3 e.1.length c3, .slice a4 (e.2 ++ [(x, withSum r)]).length c4], .bool true]) ∧ Sp twoO w' w.heap.size w'.heap.size ((d.1, d.2 ++ [(x, withSum r)]), (e.1, e.2 ++ [(x, withSum r)])) [.slice a1 d.1.length c1, .slice a2 (d.2 ++ [(x, withSum r)]).length c2, .slice a3 e.1.length c3, .slice a4 (e.2 ++ [(x, withSum r)]).length c4] ∧ Below w.heap.size w w' := by
  have HD : Hid (∀ V, Below w.heap.size w V → DiskR V ak aw d) := fun V hb => h.below hb
  have HE : Hid (∀ V, Below w.heap.size w V → DiskR V bk bw e) := fun V hb => h2.below hb
  clear h h2
  have HT := Lib.hid hT
  have HO1 := Lib.hid (twoOk_1 hT).1
  have HO2 := Lib.hid (twoOk_1 hT).2
  have HRo : Hid (∀ V, Below w.heap.size w V → IntsR V ar r) := fun V hb => hr.below hb
  clear hT hr
  have hwl := withSum_len r
  have hC2 : withSum r ≠ [] ∧ canWrite d x (withSum r) = true ∧ canWrite e x (withSum r) = true := by
    unfold bothC at hC
    simpa using hC
  obtain ⟨hs0, hca, hcb⟩ := hC2
  have hsl : (withSum r).length ≠ 0 := fun h => hs0 (List.eq_nil_of_length_eq_zero h)
  have hq : ((withSum r).length == 0) = false := by simp; omega
  have hq2 : (((withSum r).length : Int) == 0) = false := by simp; omega
  clear hC hs0
  go_enter Try.func33, Try.ntmps33
  go_wp2_with fail
  refine (c_spec_TwoOk ak aw bk bw ck cw dk dw d e _ (HD.out _ (by (repeat (first | with_reducible exact Below.refl _ _ | ((with_reducible refine bl_alloc ?_ ?_); (focus (first | (simp; done) | (simp; omega) | omega))) | ((with_reducible refine bl_set ?_ ?_); (focus (first | (simp; done) | (simp; omega) | omega))) | ((with_reducible refine bl_later ?_ ?_); (focus (first | (simp; done) | (simp; omega) | omega))) | with_reducible refine bl_drew ?_ | with_reducible refine bl_drewN ?_ | ((with_reducible refine bl_step (by assumption) ?_ ?_); (focus (first | (simp; done) | (simp; omega) | omega))))))) (HE.out _ (by (repeat (first | with_reducible exact Below.refl _ _ | ((with_reducible refine bl_alloc ?_ ?_); (focus (first | (simp; done) | (simp; omega) | omega))) | ((with_reducible refine bl_set ?_ ?_); (focus (first | (simp; done) | (simp; omega) | omega))) | ((with_reducible refine bl_later ?_ ?_); (focus (first | (simp; done) | (simp; omega) | omega))) | with_reducible refine bl_drew ?_ | with_reducible refine bl_drewN ?_ | ((with_reducible refine bl_step (by assumption) ?_ ?_); (focus (first | (simp; done) | (simp; omega) | omega)))))))).mono ?_
  rw [HT.out]
  rintro en w2 ⟨rfl, hb2⟩
  have hz2 := hb2.size
  simp only [World.size_alloc] at hz2
  have hca0 := fun (o : Nat) => hb2.cell (p := ⟨w.heap.size, o, none⟩) (by (first | (simp; done) | (simp; omega) | omega))
  have hfa0 := fun (o : Nat) => hb2.frozen (p := ⟨w.heap.size, o, none⟩) (by (first | (simp; done) | (simp; omega) | omega))
  have hca1 := fun (o : Nat) => hb2.cell (p := ⟨w.heap.size + 1, o, none⟩) (by (first | (simp; done) | (simp; omega) | omega))
  have hfa1 := fun (o : Nat) => hb2.frozen (p := ⟨w.heap.size + 1, o, none⟩) (by (first | (simp; done) | (simp; omega) | omega))
  have hla0 : w.heap.size < w2.heap.size := by omega
  have hla1 : w.heap.size + 1 < w2.heap.size := by omega
  go_wp2_with fail
  refine (c_spec_WithSum ar cr r _ (HRo.out _ (by (repeat (first | with_reducible exact Below.refl _ _ | ((with_reducible refine bl_alloc ?_ ?_); (focus (first | (simp; done) | (simp; omega) | omega))) | ((with_reducible refine bl_set ?_ ?_); (focus (first | (simp; done) | (simp; omega) | omega))) | ((with_reducible refine bl_later ?_ ?_); (focus (first | (simp; done) | (simp; omega) | omega))) | with_reducible refine bl_drew ?_ | with_reducible refine bl_drewN ?_ | ((with_reducible refine bl_step (by assumption) ?_ ?_); (focus (first | (simp; done) | (simp; omega) | omega)))))))).mono ?_
  rintro en w3 ⟨a3, c3, rfl, ho3, hb3⟩
  have hz3 := hb3.size
  have Ho3 := Lib.hid ho3
  clear ho3
  have hcb0 := fun (o : Nat) => hb3.cell (p := ⟨w.heap.size, o, none⟩) (by (first | (simp; done) | (simp; omega) | omega))
  have hfb0 := fun (o : Nat) => hb3.frozen (p := ⟨w.heap.size, o, none⟩) (by (first | (simp; done) | (simp; omega) | omega))
  have hcb1 := fun (o : Nat) => hb3.cell (p := ⟨w.heap.size + 1, o, none⟩) (by (first | (simp; done) | (simp; omega) | omega))
  have hfb1 := fun (o : Nat) => hb3.frozen (p := ⟨w.heap.size + 1, o, none⟩) (by (first | (simp; done) | (simp; omega) | omega))
  have hlb0 : w.heap.size < w3.heap.size := by omega
  have hlb1 : w.heap.size + 1 < w3.heap.size := by omega
  go_wp2_with fail
  refine (c_spec_Wrote ak aw ck cw d x a3 c3 (withSum r) _ (HD.out _ (by (repeat (first | with_reducible exact Below.refl _ _ | ((with_reducible refine bl_alloc ?_ ?_); (focus (first | (simp; done) | (simp; omega) | omega))) | ((with_reducible refine bl_set ?_ ?_); (focus (first | (simp; done) | (simp; omega) | omega))) | ((with_reducible refine bl_later ?_ ?_); (focus (first | (simp; done) | (simp; omega) | omega))) | with_reducible refine bl_drew ?_ | with_reducible refine bl_drewN ?_ | ((with_reducible refine bl_step (by assumption) ?_ ?_); (focus (first | (simp; done) | (simp; omega) | omega))))))) (Ho3.out.kp (by (repeat (first | with_reducible exact kp_refl | ((with_reducible refine kp_alloc ?_ ?_); (focus (first | (simp; done) | (simp; omega) | omega))) | ((with_reducible refine kp_set ?_ ?_); (focus (first | (simp; done) | (simp; omega) | omega))) | with_reducible refine kp_drew ?_ | with_reducible refine kp_drewN ?_ | ((with_reducible refine kp_step (by assumption) ?_ ?_); (focus (first | (simp; done) | (simp; omega) | omega))))))).read HO1.out).mono ?_
  rw [hca]
  rintro en w5 ⟨a5, c5, a6, c6, rfl, ho5, hb5⟩
  have hz5 := hb5.size
  have Ho5 := Lib.hid ho5
  clear ho5
  have hcd0 := fun (o : Nat) => hb5.cell (p := ⟨w.heap.size, o, none⟩) (by (first | (simp; done) | (simp; omega) | omega))
  have hfd0 := fun (o : Nat) => hb5.frozen (p := ⟨w.heap.size, o, none⟩) (by (first | (simp; done) | (simp; omega) | omega))
  have hcd1 := fun (o : Nat) => hb5.cell (p := ⟨w.heap.size + 1, o, none⟩) (by (first | (simp; done) | (simp; omega) | omega))
  have hfd1 := fun (o : Nat) => hb5.frozen (p := ⟨w.heap.size + 1, o, none⟩) (by (first | (simp; done) | (simp; omega) | omega))
  have hld0 : w.heap.size < w5.heap.size := by omega
  have hld1 : w.heap.size + 1 < w5.heap.size := by omega
  go_wp2_with fail
  refine (c_spec_Wrote bk bw dk dw e x a3 c3 (withSum r) _ (HE.out _ (by (repeat (first | with_reducible exact Below.refl _ _ | ((with_reducible refine bl_alloc ?_ ?_); (focus (first | (simp; done) | (simp; omega) | omega))) | ((with_reducible refine bl_set ?_ ?_); (focus (first | (simp; done) | (simp; omega) | omega))) | ((with_reducible refine bl_later ?_ ?_); (focus (first | (simp; done) | (simp; omega) | omega))) | with_reducible refine bl_drew ?_ | with_reducible refine bl_drewN ?_ | ((with_reducible refine bl_step (by assumption) ?_ ?_); (focus (first | (simp; done) | (simp; omega) | omega))))))) (Ho3.out.kp (by (repeat (first | with_reducible exact kp_refl | ((with_reducible refine kp_alloc ?_ ?_); (focus (first | (simp; done) | (simp; omega) | omega))) | ((with_reducible refine kp_set ?_ ?_); (focus (first | (simp; done) | (simp; omega) | omega))) | with_reducible refine kp_drew ?_ | with_reducible refine kp_drewN ?_ | ((with_reducible refine kp_step (by assumption) ?_ ?_); (focus (first | (simp; done) | (simp; omega) | omega))))))).read HO2.out).mono ?_
  rw [hcb]
  rintro en w6 ⟨a7, c7, a8, c8, rfl, ho6, hb6⟩
  have hz6 := hb6.size
  simp only [World.size_alloc] at hz6 ho6
  have Ho6 := Lib.hid ho6
  clear ho6
  have hce0 := fun (o : Nat) => hb6.cell (p := ⟨w.heap.size, o, none⟩) (by (first | (simp; done) | (simp; omega) | omega))
  have hfe0 := fun (o : Nat) => hb6.frozen (p := ⟨w.heap.size, o, none⟩) (by (first | (simp; done) | (simp; omega) | omega))
  have hce1 := fun (o : Nat) => hb6.cell (p := ⟨w.heap.size + 1, o, none⟩) (by (first | (simp; done) | (simp; omega) | omega))
  have hfe1 := fun (o : Nat) => hb6.frozen (p := ⟨w.heap.size + 1, o, none⟩) (by (first | (simp; done) | (simp; omega) | omega))
  have hce2 := fun (o : Nat) => hb6.cell (p := ⟨w5.heap.size, o, none⟩) (by (first | (simp; done) | (simp; omega) | omega))
  have hfe2 := fun (o : Nat) => hb6.frozen (p := ⟨w5.heap.size, o, none⟩) (by (first | (simp; done) | (simp; omega) | omega))
  have hle0 : w.heap.size < w6.heap.size := by omega
  have hle1 : w.heap.size + 1 < w6.heap.size := by omega
  have hle2 : w5.heap.size < w6.heap.size := by omega
  go_wp2_with fail
  refine bodyPost_ret (v := .tuple #[.agg #[.slice a5 (wroteD d x (withSum r)).1.length c5, .slice a6 (wroteD d x (withSum r)).2.length c6, .slice a7 (wroteD e x (withSum r)).1.length c7, .slice a8 (wroteD e x (withSum r)).2.length c8], .bool true]) (by simp [results, Try.results33, go_sem, *]) rfl ⟨a5, c5, a6, c6, a7, c7, a8, c8, ?_, ?_, ?_⟩
  · rw [wroteD_y hca, wroteD_y hcb]
  · rw [← wroteD_y hca, ← wroteD_y hcb]
    have e1 := congrArg (fun z => z.1.length) (wroteD_y hca)
    have e2 := congrArg (fun z => z.2.length) (wroteD_y hca)
    have e3 := congrArg (fun z => z.1.length) (wroteD_y hcb)
    have e4 := congrArg (fun z => z.2.length) (wroteD_y hcb)
    simp only at e1 e2 e3 e4
    rw [← e1, ← e2, ← e3, ← e4]
    exact Sp.wide (lo := w3.heap.size) (hi := w6.heap.size) (Sp.pair (mid := w5.heap.size) (mid' := w5.heap.size) (va := [.slice a5 (wroteD d x (withSum r)).1.length c5, .slice a6 (wroteD d x (withSum r)).2.length c6]) (vb := [.slice a7 (wroteD e x (withSum r)).1.length c7, .slice a8 (wroteD e x (withSum r)).2.length c8]) ((Ho5.out.wide (by omega) (Nat.le_refl _)).sp.kp (by (repeat (first | with_reducible exact kp_refl | ((with_reducible refine kp_alloc ?_ ?_); (focus (first | (simp; done) | (simp; omega) | omega))) | ((with_reducible refine kp_set ?_ ?_); (focus (first | (simp; done) | (simp; omega) | omega))) | with_reducible refine kp_drew ?_ | with_reducible refine kp_drewN ?_ | ((with_reducible refine kp_step (by assumption) ?_ ?_); (focus (first | (simp; done) | (simp; omega) | omega))))))) ((Ho6.out.wide (by omega) (Nat.le_refl _)).sp.kp (by (repeat (first | with_reducible exact kp_refl | ((with_reducible refine kp_alloc ?_ ?_); (focus (first | (simp; done) | (simp; omega) | omega))) | ((with_reducible refine kp_set ?_ ?_); (focus (first | (simp; done) | (simp; omega) | omega))) | with_reducible refine kp_drew ?_ | with_reducible refine kp_drewN ?_ | ((with_reducible refine kp_step (by assumption) ?_ ?_); (focus (first | (simp; done) | (simp; omega) | omega))))))) (Nat.le_refl _) (by omega) (by omega)) (by omega) (by (first | (simp; done) | (simp; omega) | omega))
  · (repeat (first | with_reducible exact Below.refl _ _ | ((with_reducible refine bl_alloc ?_ ?_); (focus (first | (simp; done) | (simp; omega) | omega))) | ((with_reducible refine bl_set ?_ ?_); (focus (first | (simp; done) | (simp; omega) | omega))) | ((with_reducible refine bl_later ?_ ?_); (focus (first | (simp; done) | (simp; omega) | omega))) | with_reducible refine bl_drew ?_ | with_reducible refine bl_drewN ?_ | ((with_reducible refine bl_step (by assumption) ?_ ?_); (focus (first | (simp; done) | (simp; omega) | omega)))))

end Go.Proofs.Ytmjafclpeknpcaa
