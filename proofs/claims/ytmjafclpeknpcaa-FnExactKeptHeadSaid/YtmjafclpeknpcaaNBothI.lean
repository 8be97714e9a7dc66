/- Walks of functions of the program, printed by a program of the prover. -/
import Derived.Test.YtmjafclpeknpcaaNWrote
import Derived.WalkKit
import Derived.WalkSpells
import Derived.Deep.QuietTactic
import Derived.BigQuiet
import Derived.Deep.Light
import Derived.Lib.Hide
import Derived.IntWalk
namespace Go.Proofs.Ytmjafclpeknpcaa
open Go.ChangeShapes Go.WideShapes Go.ChangeAt Go.RowKit Go.Deep
set_option maxHeartbeats 3200000
set_option maxRecDepth 100000

def bothC (d e : List (List Int) × List (Int × List Int)) (x : Int) (r : List Int) : Bool := decide (withSum r ≠ []) && (canWrite d x (withSum r) && canWrite e x (withSum r))
theorem twoOk_1 {d e : List (List Int) × List (Int × List Int)} (h : twoOk d e = true) : diskOk d = true ∧ diskOk e = true := by
  unfold twoOk at h
  simp only [Bool.and_eq_true] at h
  exact ⟨h.1, h.2.1⟩
theorem withSum_len (r : List Int) : (withSum r).length ≤ 48 := by
  unfold withSum
  split
  · rename_i h
    simp only [Bool.and_eq_true, decide_eq_true_eq] at h
    simp; omega
  · simp
theorem withSum_ne {r : List Int} (h : withSum r ≠ []) : rowOk r = true ∧ r.length < 48 ∧ withSum r = r ++ [sumL r] := by
  cases h1 : rowOk r
  · exact absurd (withSum_n h1) h
  · by_cases h2 : r.length < 48
    · exact ⟨rfl, h2, withSum_y h1 h2⟩
    · exact absurd (withSum_m h2) h
theorem c_impl_disks (ak aw bk bw : Option Addr) (n1 n2 n3 n4 ck cw dk dw : Nat) (w : World) :
    Calls Try.prog 118 #[.agg #[.slice ak n1 ck, .slice aw n2 cw, .slice bk n3 dk, .slice bw n4 dw]] w fun en w' => en = .returned (.agg #[.slice ak n1 ck, .slice aw n2 cw, .slice bk n3 dk, .slice bw n4 dw]) ∧ Below w.heap.size w w' := by
  go_enter Try.func118, Try.ntmps118
  go_wp2_with fail
  refine bodyPost_ret (v := .agg #[.slice ak n1 ck, .slice aw n2 cw, .slice bk n3 dk, .slice bw n4 dw]) (by simp [results, Try.results118, go_sem, *]) rfl ⟨rfl, ?_⟩
  (repeat (first | with_reducible exact Below.refl _ _ | ((with_reducible refine bl_alloc ?_ ?_); (focus (first | (simp; done) | (simp; omega) | omega))) | ((with_reducible refine bl_set ?_ ?_); (focus (first | (simp; done) | (simp; omega) | omega))) | ((with_reducible refine bl_later ?_ ?_); (focus (first | (simp; done) | (simp; omega) | omega))) | with_reducible refine bl_drew ?_ | with_reducible refine bl_drewN ?_ | ((with_reducible refine bl_step (by assumption) ?_ ?_); (focus (first | (simp; done) | (simp; omega) | omega)))))
theorem c_impl_twoOf (ak aw bk bw : Option Addr) (n1 n2 n3 n4 ck cw dk dw : Nat) (w : World) :
    Calls Try.prog 142 #[.agg #[.slice ak n1 ck, .slice aw n2 cw, .slice bk n3 dk, .slice bw n4 dw]] w fun en w' => en = .returned (.agg #[.slice ak n1 ck, .slice aw n2 cw, .slice bk n3 dk, .slice bw n4 dw]) ∧ Below w.heap.size w w' := by
  go_enter Try.func142, Try.ntmps142
  go_wp2_with fail
  refine bodyPost_ret (v := .agg #[.slice ak n1 ck, .slice aw n2 cw, .slice bk n3 dk, .slice bw n4 dw]) (by simp [results, Try.results142, go_sem, *]) rfl ⟨rfl, ?_⟩
  (repeat (first | with_reducible exact Below.refl _ _ | ((with_reducible refine bl_alloc ?_ ?_); (focus (first | (simp; done) | (simp; omega) | omega))) | ((with_reducible refine bl_set ?_ ?_); (focus (first | (simp; done) | (simp; omega) | omega))) | ((with_reducible refine bl_later ?_ ?_); (focus (first | (simp; done) | (simp; omega) | omega))) | with_reducible refine bl_drew ?_ | with_reducible refine bl_drewN ?_ | ((with_reducible refine bl_step (by assumption) ?_ ?_); (focus (first | (simp; done) | (simp; omega) | omega)))))
theorem c_impl_BothWrote_n (ak aw bk bw : Option Addr) (ck cw dk dw : Nat) (d e : List (List Int) × List (Int × List Int)) (x : Int) (ar : Option Addr) (cr : Nat) (r : List Int) (w : World) (h : DiskR w ak aw d) (h2 : DiskR w bk bw e) (hr : IntsR w ar r) (hT : twoOk d e = true) (hC : bothC d e x r = false) :
    Calls Try.prog 87 #[.agg #[.slice ak d.1.length ck, .slice aw d.2.length cw, .slice bk e.1.length dk, .slice bw e.2.length dw], .int .i64 x, .slice ar r.length cr] w fun en w' => ∃ a1 c1 a2 c2 a3 c3 a4 c4, en = .returned (.tuple #[.agg #[.slice a1 d.1.length c1, .slice a2 d.2.length c2, .slice a3 e.1.length c3, .slice a4 e.2.length c4], .bool false]) ∧ Sp twoO w' w.heap.size w'.heap.size (d, e) [.slice a1 d.1.length c1, .slice a2 d.2.length c2, .slice a3 e.1.length c3, .slice a4 e.2.length c4] ∧ Below w.heap.size w w' := by
  have HD : Hid (∀ V, Below w.heap.size w V → DiskR V ak aw d) := fun V hb => h.below hb
  have HE : Hid (∀ V, Below w.heap.size w V → DiskR V bk bw e) := fun V hb => h2.below hb
  clear h h2
  have HT := Lib.hid hT
  have HO1 := Lib.hid (twoOk_1 hT).1
  have HO2 := Lib.hid (twoOk_1 hT).2
  have HRo : Hid (∀ V, Below w.heap.size w V → IntsR V ar r) := fun V hb => hr.below hb
  clear hT hr
  by_cases hs0 : withSum r = []
  · clear hC
    have hnil := fun (V : World) (a : Option Addr) (n c : Nat) => Lib.run_eql_slice_nil (P := Try.prog) V 85 2 a n c 0 0 Try.underlying85
    go_enter Try.func87, Try.ntmps87
    go_wp2_with fail
    refine (c_impl_TwoOk ak aw bk bw ck cw dk dw d e _ (HD.out _ (by (repeat (first | with_reducible exact Below.refl _ _ | ((with_reducible refine bl_alloc ?_ ?_); (focus (first | (simp; done) | (simp; omega) | omega))) | ((with_reducible refine bl_set ?_ ?_); (focus (first | (simp; done) | (simp; omega) | omega))) | ((with_reducible refine bl_later ?_ ?_); (focus (first | (simp; done) | (simp; omega) | omega))) | with_reducible refine bl_drew ?_ | with_reducible refine bl_drewN ?_ | ((with_reducible refine bl_step (by assumption) ?_ ?_); (focus (first | (simp; done) | (simp; omega) | omega))))))) (HE.out _ (by (repeat (first | with_reducible exact Below.refl _ _ | ((with_reducible refine bl_alloc ?_ ?_); (focus (first | (simp; done) | (simp; omega) | omega))) | ((with_reducible refine bl_set ?_ ?_); (focus (first | (simp; done) | (simp; omega) | omega))) | ((with_reducible refine bl_later ?_ ?_); (focus (first | (simp; done) | (simp; omega) | omega))) | with_reducible refine bl_drew ?_ | with_reducible refine bl_drewN ?_ | ((with_reducible refine bl_step (by assumption) ?_ ?_); (focus (first | (simp; done) | (simp; omega) | omega)))))))).mono ?_
    rw [HT.out]
    rintro en w2 ⟨rfl, hb2⟩
    have hz2 := hb2.size
    simp only [World.size_alloc] at hz2
    have hca0 := fun (o : Nat) => hb2.cell (p := ⟨w.heap.size, o, none⟩) (by (first | (simp; done) | (simp; omega) | omega))
    have hfa0 := fun (o : Nat) => hb2.frozen (p := ⟨w.heap.size, o, none⟩) (by (first | (simp; done) | (simp; omega) | omega))
    have hca1 := fun (o : Nat) => hb2.cell (p := ⟨w.heap.size + 1, o, none⟩) (by (first | (simp; done) | (simp; omega) | omega))
    have hfa1 := fun (o : Nat) => hb2.frozen (p := ⟨w.heap.size + 1, o, none⟩) (by (first | (simp; done) | (simp; omega) | omega))
    have hla0 : w.heap.size < w2.heap.size := by omega
    have hla1 : w.heap.size + 1 < w2.heap.size := by omega
    go_wp2_with fail
    refine (c_impl_WithSum_n ar cr r _ (HRo.out _ (by (repeat (first | with_reducible exact Below.refl _ _ | ((with_reducible refine bl_alloc ?_ ?_); (focus (first | (simp; done) | (simp; omega) | omega))) | ((with_reducible refine bl_set ?_ ?_); (focus (first | (simp; done) | (simp; omega) | omega))) | ((with_reducible refine bl_later ?_ ?_); (focus (first | (simp; done) | (simp; omega) | omega))) | with_reducible refine bl_drew ?_ | with_reducible refine bl_drewN ?_ | ((with_reducible refine bl_step (by assumption) ?_ ?_); (focus (first | (simp; done) | (simp; omega) | omega))))))) hs0).mono ?_
    rintro en w' ⟨rfl, rfl⟩
    clear hs0
    go_wp2_with fail
    refine (c_impl_copyTwo ak aw bk bw ck cw dk dw d e _ (HD.out _ (by (repeat (first | with_reducible exact Below.refl _ _ | ((with_reducible refine bl_alloc ?_ ?_); (focus (first | (simp; done) | (simp; omega) | omega))) | ((with_reducible refine bl_set ?_ ?_); (focus (first | (simp; done) | (simp; omega) | omega))) | ((with_reducible refine bl_later ?_ ?_); (focus (first | (simp; done) | (simp; omega) | omega))) | with_reducible refine bl_drew ?_ | with_reducible refine bl_drewN ?_ | ((with_reducible refine bl_step (by assumption) ?_ ?_); (focus (first | (simp; done) | (simp; omega) | omega))))))) (HE.out _ (by (repeat (first | with_reducible exact Below.refl _ _ | ((with_reducible refine bl_alloc ?_ ?_); (focus (first | (simp; done) | (simp; omega) | omega))) | ((with_reducible refine bl_set ?_ ?_); (focus (first | (simp; done) | (simp; omega) | omega))) | ((with_reducible refine bl_later ?_ ?_); (focus (first | (simp; done) | (simp; omega) | omega))) | with_reducible refine bl_drew ?_ | with_reducible refine bl_drewN ?_ | ((with_reducible refine bl_step (by assumption) ?_ ?_); (focus (first | (simp; done) | (simp; omega) | omega))))))) (diskOk_B HO1.out) (diskOk_B HO2.out)).mono ?_
    rintro en w9 ⟨b1, k1, b2, k2, b3, k3, b4, k4, rfl, hs9, hb9⟩
    have hz9 := hb9.size
    have Hs9 := Lib.hid hs9
    clear hs9
    have hcz0 := fun (o : Nat) => hb9.cell (p := ⟨w.heap.size + 1, o, none⟩) (by (first | (simp; done) | (simp; omega) | omega))
    have hfz0 := fun (o : Nat) => hb9.frozen (p := ⟨w.heap.size + 1, o, none⟩) (by (first | (simp; done) | (simp; omega) | omega))
    have hlz0 : w.heap.size < w9.heap.size := by omega
    have hlz1 : w.heap.size + 1 < w9.heap.size := by omega
    go_wp2_with fail
    refine bodyPost_ret (v := .tuple #[.agg #[.slice b1 d.1.length k1, .slice b2 d.2.length k2, .slice b3 e.1.length k3, .slice b4 e.2.length k4], .bool false]) (by simp [results, Try.results87, go_sem, *]) rfl ⟨b1, k1, b2, k2, b3, k3, b4, k4, rfl, ?_, ?_⟩
    · exact (Hs9.out.kp (by (repeat (first | with_reducible exact kp_refl | ((with_reducible refine kp_alloc ?_ ?_); (focus (first | (simp; done) | (simp; omega) | omega))) | ((with_reducible refine kp_set ?_ ?_); (focus (first | (simp; done) | (simp; omega) | omega))) | with_reducible refine kp_drew ?_ | with_reducible refine kp_drewN ?_ | ((with_reducible refine kp_step (by assumption) ?_ ?_); (focus (first | (simp; done) | (simp; omega) | omega))))))).wide (by omega) (by (first | (simp; done) | (simp; omega) | omega))
    · (repeat (first | with_reducible exact Below.refl _ _ | ((with_reducible refine bl_alloc ?_ ?_); (focus (first | (simp; done) | (simp; omega) | omega))) | ((with_reducible refine bl_set ?_ ?_); (focus (first | (simp; done) | (simp; omega) | omega))) | ((with_reducible refine bl_later ?_ ?_); (focus (first | (simp; done) | (simp; omega) | omega))) | with_reducible refine bl_drew ?_ | with_reducible refine bl_drewN ?_ | ((with_reducible refine bl_step (by assumption) ?_ ?_); (focus (first | (simp; done) | (simp; omega) | omega)))))
  · have hC2 : (canWrite d x (withSum r) && canWrite e x (withSum r)) = false := by
      unfold bothC at hC
      rw [decide_eq_true hs0, Bool.true_and] at hC
      exact hC
    clear hC
    obtain ⟨hr1, hr2, hrs⟩ := withSum_ne hs0
    have Hr1 := Lib.hid hr1
    have HS := Lib.hid hrs
    have hsl : (withSum r).length ≠ 0 := fun h => hs0 (List.eq_nil_of_length_eq_zero h)
    clear hs0 hr1 hrs
    cases hca : canWrite d x (withSum r)
    · clear hC2
      have hnil := fun (V : World) (a : Option Addr) (n c : Nat) => Lib.run_eql_slice_nil (P := Try.prog) V 85 2 a n c 0 0 Try.underlying85
      go_enter Try.func87, Try.ntmps87
      go_wp2_with fail
      refine (c_impl_TwoOk ak aw bk bw ck cw dk dw d e _ (HD.out _ (by (repeat (first | with_reducible exact Below.refl _ _ | ((with_reducible refine bl_alloc ?_ ?_); (focus (first | (simp; done) | (simp; omega) | omega))) | ((with_reducible refine bl_set ?_ ?_); (focus (first | (simp; done) | (simp; omega) | omega))) | ((with_reducible refine bl_later ?_ ?_); (focus (first | (simp; done) | (simp; omega) | omega))) | with_reducible refine bl_drew ?_ | with_reducible refine bl_drewN ?_ | ((with_reducible refine bl_step (by assumption) ?_ ?_); (focus (first | (simp; done) | (simp; omega) | omega))))))) (HE.out _ (by (repeat (first | with_reducible exact Below.refl _ _ | ((with_reducible refine bl_alloc ?_ ?_); (focus (first | (simp; done) | (simp; omega) | omega))) | ((with_reducible refine bl_set ?_ ?_); (focus (first | (simp; done) | (simp; omega) | omega))) | ((with_reducible refine bl_later ?_ ?_); (focus (first | (simp; done) | (simp; omega) | omega))) | with_reducible refine bl_drew ?_ | with_reducible refine bl_drewN ?_ | ((with_reducible refine bl_step (by assumption) ?_ ?_); (focus (first | (simp; done) | (simp; omega) | omega)))))))).mono ?_
      rw [HT.out]
      rintro en w2 ⟨rfl, hb2⟩
      have hz2 := hb2.size
      simp only [World.size_alloc] at hz2
      have hca0 := fun (o : Nat) => hb2.cell (p := ⟨w.heap.size, o, none⟩) (by (first | (simp; done) | (simp; omega) | omega))
      have hfa0 := fun (o : Nat) => hb2.frozen (p := ⟨w.heap.size, o, none⟩) (by (first | (simp; done) | (simp; omega) | omega))
      have hca1 := fun (o : Nat) => hb2.cell (p := ⟨w.heap.size + 1, o, none⟩) (by (first | (simp; done) | (simp; omega) | omega))
      have hfa1 := fun (o : Nat) => hb2.frozen (p := ⟨w.heap.size + 1, o, none⟩) (by (first | (simp; done) | (simp; omega) | omega))
      have hla0 : w.heap.size < w2.heap.size := by omega
      have hla1 : w.heap.size + 1 < w2.heap.size := by omega
      go_wp2_with fail
      refine (c_impl_WithSum_y ar cr r _ (HRo.out _ (by (repeat (first | with_reducible exact Below.refl _ _ | ((with_reducible refine bl_alloc ?_ ?_); (focus (first | (simp; done) | (simp; omega) | omega))) | ((with_reducible refine bl_set ?_ ?_); (focus (first | (simp; done) | (simp; omega) | omega))) | ((with_reducible refine bl_later ?_ ?_); (focus (first | (simp; done) | (simp; omega) | omega))) | with_reducible refine bl_drew ?_ | with_reducible refine bl_drewN ?_ | ((with_reducible refine bl_step (by assumption) ?_ ?_); (focus (first | (simp; done) | (simp; omega) | omega))))))) Hr1.out hr2).mono ?_
      rw [← HS.out]
      rintro en w3 ⟨a3, c3, rfl, ho3, hb3⟩
      have hz3 := hb3.size
      obtain ⟨g3, rfl⟩ := ints_some ho3 hsl
      have Ho3 := Lib.hid ho3
      clear ho3
      have hcb0 := fun (o : Nat) => hb3.cell (p := ⟨w.heap.size, o, none⟩) (by (first | (simp; done) | (simp; omega) | omega))
      have hfb0 := fun (o : Nat) => hb3.frozen (p := ⟨w.heap.size, o, none⟩) (by (first | (simp; done) | (simp; omega) | omega))
      have hcb1 := fun (o : Nat) => hb3.cell (p := ⟨w.heap.size + 1, o, none⟩) (by (first | (simp; done) | (simp; omega) | omega))
      have hfb1 := fun (o : Nat) => hb3.frozen (p := ⟨w.heap.size + 1, o, none⟩) (by (first | (simp; done) | (simp; omega) | omega))
      have hlb0 : w.heap.size < w3.heap.size := by omega
      have hlb1 : w.heap.size + 1 < w3.heap.size := by omega
      go_wp2_with fail
      refine (c_impl_disks ak aw bk bw d.1.length d.2.length e.1.length e.2.length ck cw dk dw _).mono ?_
      rintro en w4 ⟨rfl, hb4⟩
      have hz4 := hb4.size
      have hcc0 := fun (o : Nat) => hb4.cell (p := ⟨w.heap.size, o, none⟩) (by (first | (simp; done) | (simp; omega) | omega))
      have hfc0 := fun (o : Nat) => hb4.frozen (p := ⟨w.heap.size, o, none⟩) (by (first | (simp; done) | (simp; omega) | omega))
      have hcc1 := fun (o : Nat) => hb4.cell (p := ⟨w.heap.size + 1, o, none⟩) (by (first | (simp; done) | (simp; omega) | omega))
      have hfc1 := fun (o : Nat) => hb4.frozen (p := ⟨w.heap.size + 1, o, none⟩) (by (first | (simp; done) | (simp; omega) | omega))
      have hlc0 : w.heap.size < w4.heap.size := by omega
      have hlc1 : w.heap.size + 1 < w4.heap.size := by omega
      have HX4 := Lib.hid (Bx.new w4 [.slice ak d.1.length ck, .slice aw d.2.length cw, .slice bk e.1.length dk, .slice bw e.2.length dw] 142)
      have i0 : ∀ V, (Instr.index 142 (.agg #[.slice ak d.1.length ck, .slice aw d.2.length cw, .slice bk e.1.length dk, .slice bw e.2.length dw]) (.int .i64 0)).run Try.prog V = .ok (.agg #[.slice ak d.1.length ck, .slice aw d.2.length cw]) V := fun _ => by kernel_rfl
      have i1 : ∀ V, (Instr.index 142 (.agg #[.slice ak d.1.length ck, .slice aw d.2.length cw, .slice bk e.1.length dk, .slice bw e.2.length dw]) (.int .i64 1)).run Try.prog V = .ok (.agg #[.slice bk e.1.length dk, .slice bw e.2.length dw]) V := fun _ => by kernel_rfl
      go_wp2_with fail
      refine wp_loop_rounds 3 ?_
      rw [rounds_succ]
      go_wp2_with fail
      refine (c_impl_Wrote_n ak aw ck cw d x (some ⟨g3, 0, none⟩) c3 (withSum r) _ (HD.out _ (by (repeat (first | with_reducible exact Below.refl _ _ | ((with_reducible refine bl_alloc ?_ ?_); (focus (first | (simp; done) | (simp; omega) | omega))) | ((with_reducible refine bl_set ?_ ?_); (focus (first | (simp; done) | (simp; omega) | omega))) | ((with_reducible refine bl_later ?_ ?_); (focus (first | (simp; done) | (simp; omega) | omega))) | with_reducible refine bl_drew ?_ | with_reducible refine bl_drewN ?_ | ((with_reducible refine bl_step (by assumption) ?_ ?_); (focus (first | (simp; done) | (simp; omega) | omega))))))) (Ho3.out.kp (by (repeat (first | with_reducible exact kp_refl | ((with_reducible refine kp_alloc ?_ ?_); (focus (first | (simp; done) | (simp; omega) | omega))) | ((with_reducible refine kp_set ?_ ?_); (focus (first | (simp; done) | (simp; omega) | omega))) | with_reducible refine kp_drew ?_ | with_reducible refine kp_drewN ?_ | ((with_reducible refine kp_step (by assumption) ?_ ?_); (focus (first | (simp; done) | (simp; omega) | omega))))))).read HO1.out hca).mono ?_
      rintro en w5 ⟨a5, c5, a6, c6, rfl, ho5, hb5⟩
      have hz5 := hb5.size
      simp only [World.size_alloc] at hz5 ho5
      have Ho5 := Lib.hid ho5
      clear ho5
      have HX5 : Hid (Bx w5 w4.heap.size [.slice ak d.1.length ck, .slice aw d.2.length cw, .slice bk e.1.length dk, .slice bw e.2.length dw]) := (HX4.out.alloc _).below hb5
      have hcd0 := fun (o : Nat) => hb5.cell (p := ⟨w.heap.size, o, none⟩) (by (first | (simp; done) | (simp; omega) | omega))
      have hfd0 := fun (o : Nat) => hb5.frozen (p := ⟨w.heap.size, o, none⟩) (by (first | (simp; done) | (simp; omega) | omega))
      have hcd1 := fun (o : Nat) => hb5.cell (p := ⟨w.heap.size + 1, o, none⟩) (by (first | (simp; done) | (simp; omega) | omega))
      have hfd1 := fun (o : Nat) => hb5.frozen (p := ⟨w.heap.size + 1, o, none⟩) (by (first | (simp; done) | (simp; omega) | omega))
      have hcd2 := fun (o : Nat) => hb5.cell (p := ⟨w4.heap.size, o, none⟩) (by (first | (simp; done) | (simp; omega) | omega))
      have hfd2 := fun (o : Nat) => hb5.frozen (p := ⟨w4.heap.size, o, none⟩) (by (first | (simp; done) | (simp; omega) | omega))
      have hld0 : w.heap.size < w5.heap.size := by omega
      have hld1 : w.heap.size + 1 < w5.heap.size := by omega
      have hld2 : w4.heap.size < w5.heap.size := by omega
      go_wp2_with fail
      refine (c_impl_copyTwo ak aw bk bw ck cw dk dw d e _ (HD.out _ (by (repeat (first | with_reducible exact Below.refl _ _ | ((with_reducible refine bl_alloc ?_ ?_); (focus (first | (simp; done) | (simp; omega) | omega))) | ((with_reducible refine bl_set ?_ ?_); (focus (first | (simp; done) | (simp; omega) | omega))) | ((with_reducible refine bl_later ?_ ?_); (focus (first | (simp; done) | (simp; omega) | omega))) | with_reducible refine bl_drew ?_ | with_reducible refine bl_drewN ?_ | ((with_reducible refine bl_step (by assumption) ?_ ?_); (focus (first | (simp; done) | (simp; omega) | omega))))))) (HE.out _ (by (repeat (first | with_reducible exact Below.refl _ _ | ((with_reducible refine bl_alloc ?_ ?_); (focus (first | (simp; done) | (simp; omega) | omega))) | ((with_reducible refine bl_set ?_ ?_); (focus (first | (simp; done) | (simp; omega) | omega))) | ((with_reducible refine bl_later ?_ ?_); (focus (first | (simp; done) | (simp; omega) | omega))) | with_reducible refine bl_drew ?_ | with_reducible refine bl_drewN ?_ | ((with_reducible refine bl_step (by assumption) ?_ ?_); (focus (first | (simp; done) | (simp; omega) | omega))))))) (diskOk_B HO1.out) (diskOk_B HO2.out)).mono ?_
      rintro en w9 ⟨b1, k1, b2, k2, b3, k3, b4, k4, rfl, hs9, hb9⟩
      have hz9 := hb9.size
      simp only [World.size_alloc] at hz9 hs9
      have Hs9 := Lib.hid hs9
      clear hs9
      have hcz0 := fun (o : Nat) => hb9.cell (p := ⟨w.heap.size + 1, o, none⟩) (by (first | (simp; done) | (simp; omega) | omega))
      have hfz0 := fun (o : Nat) => hb9.frozen (p := ⟨w.heap.size + 1, o, none⟩) (by (first | (simp; done) | (simp; omega) | omega))
      have hlz0 : w.heap.size < w9.heap.size := by omega
      have hlz1 : w.heap.size + 1 < w9.heap.size := by omega
      go_wp2_with fail
      refine bodyPost_ret (v := .tuple #[.agg #[.slice b1 d.1.length k1, .slice b2 d.2.length k2, .slice b3 e.1.length k3, .slice b4 e.2.length k4], .bool false]) (by simp [results, Try.results87, go_sem, *]) rfl ⟨b1, k1, b2, k2, b3, k3, b4, k4, rfl, ?_, ?_⟩
      · exact (Hs9.out.kp (by (repeat (first | with_reducible exact kp_refl | ((with_reducible refine kp_alloc ?_ ?_); (focus (first | (simp; done) | (simp; omega) | omega))) | ((with_reducible refine kp_set ?_ ?_); (focus (first | (simp; done) | (simp; omega) | omega))) | with_reducible refine kp_drew ?_ | with_reducible refine kp_drewN ?_ | ((with_reducible refine kp_step (by assumption) ?_ ?_); (focus (first | (simp; done) | (simp; omega) | omega))))))).wide (by omega) (by (first | (simp; done) | (simp; omega) | omega))
      · (repeat (first | with_reducible exact Below.refl _ _ | ((with_reducible refine bl_alloc ?_ ?_); (focus (first | (simp; done) | (simp; omega) | omega))) | ((with_reducible refine bl_set ?_ ?_); (focus (first | (simp; done) | (simp; omega) | omega))) | ((with_reducible refine bl_later ?_ ?_); (focus (first | (simp; done) | (simp; omega) | omega))) | with_reducible refine bl_drew ?_ | with_reducible refine bl_drewN ?_ | ((with_reducible refine bl_step (by assumption) ?_ ?_); (focus (first | (simp; done) | (simp; omega) | omega)))))
    · have hcb : canWrite e x (withSum r) = false := by rw [hca, Bool.true_and] at hC2; exact hC2
      clear hC2
      have hnil := fun (V : World) (a : Option Addr) (n c : Nat) => Lib.run_eql_slice_nil (P := Try.prog) V 85 2 a n c 0 0 Try.underlying85
      go_enter Try.func87, Try.ntmps87
      go_wp2_with fail
      refine (c_impl_TwoOk ak aw bk bw ck cw dk dw d e _ (HD.out _ (by (repeat (first | with_reducible exact Below.refl _ _ | ((with_reducible refine bl_alloc ?_ ?_); (focus (first | (simp; done) | (simp; omega) | omega))) | ((with_reducible refine bl_set ?_ ?_); (focus (first | (simp; done) | (simp; omega) | omega))) | ((with_reducible refine bl_later ?_ ?_); (focus (first | (simp; done) | (simp; omega) | omega))) | with_reducible refine bl_drew ?_ | with_reducible refine bl_drewN ?_ | ((with_reducible refine bl_step (by assumption) ?_ ?_); (focus (first | (simp; done) | (simp; omega) | omega))))))) (HE.out _ (by (repeat (first | with_reducible exact Below.refl _ _ | ((with_reducible refine bl_alloc ?_ ?_); (focus (first | (simp; done) | (simp; omega) | omega))) | ((with_reducible refine bl_set ?_ ?_); (focus (first | (simp; done) | (simp; omega) | omega))) | ((with_reducible refine bl_later ?_ ?_); (focus (first | (simp; done) | (simp; omega) | omega))) | with_reducible refine bl_drew ?_ | with_reducible refine bl_drewN ?_ | ((with_reducible refine bl_step (by assumption) ?_ ?_); (focus (first | (simp; done) | (simp; omega) | omega)))))))).mono ?_
      rw [HT.out]
      rintro en w2 ⟨rfl, hb2⟩
      have hz2 := hb2.size
      simp only [World.size_alloc] at hz2
      have hca0 := fun (o : Nat) => hb2.cell (p := ⟨w.heap.size, o, none⟩) (by (first | (simp; done) | (simp; omega) | omega))
      have hfa0 := fun (o : Nat) => hb2.frozen (p := ⟨w.heap.size, o, none⟩) (by (first | (simp; done) | (simp; omega) | omega))
      have hca1 := fun (o : Nat) => hb2.cell (p := ⟨w.heap.size + 1, o, none⟩) (by (first | (simp; done) | (simp; omega) | omega))
      have hfa1 := fun (o : Nat) => hb2.frozen (p := ⟨w.heap.size + 1, o, none⟩) (by (first | (simp; done) | (simp; omega) | omega))
      have hla0 : w.heap.size < w2.heap.size := by omega
      have hla1 : w.heap.size + 1 < w2.heap.size := by omega
      go_wp2_with fail
      refine (c_impl_WithSum_y ar cr r _ (HRo.out _ (by (repeat (first | with_reducible exact Below.refl _ _ | ((with_reducible refine bl_alloc ?_ ?_); (focus (first | (simp; done) | (simp; omega) | omega))) | ((with_reducible refine bl_set ?_ ?_); (focus (first | (simp; done) | (simp; omega) | omega))) | ((with_reducible refine bl_later ?_ ?_); (focus (first | (simp; done) | (simp; omega) | omega))) | with_reducible refine bl_drew ?_ | with_reducible refine bl_drewN ?_ | ((with_reducible refine bl_step (by assumption) ?_ ?_); (focus (first | (simp; done) | (simp; omega) | omega))))))) Hr1.out hr2).mono ?_
      rw [← HS.out]
      rintro en w3 ⟨a3, c3, rfl, ho3, hb3⟩
      have hz3 := hb3.size
      obtain ⟨g3, rfl⟩ := ints_some ho3 hsl
      have Ho3 := Lib.hid ho3
      clear ho3
      have hcb0 := fun (o : Nat) => hb3.cell (p := ⟨w.heap.size, o, none⟩) (by (first | (simp; done) | (simp; omega) | omega))
      have hfb0 := fun (o : Nat) => hb3.frozen (p := ⟨w.heap.size, o, none⟩) (by (first | (simp; done) | (simp; omega) | omega))
      have hcb1 := fun (o : Nat) => hb3.cell (p := ⟨w.heap.size + 1, o, none⟩) (by (first | (simp; done) | (simp; omega) | omega))
      have hfb1 := fun (o : Nat) => hb3.frozen (p := ⟨w.heap.size + 1, o, none⟩) (by (first | (simp; done) | (simp; omega) | omega))
      have hlb0 : w.heap.size < w3.heap.size := by omega
      have hlb1 : w.heap.size + 1 < w3.heap.size := by omega
      go_wp2_with fail
      refine (c_impl_disks ak aw bk bw d.1.length d.2.length e.1.length e.2.length ck cw dk dw _).mono ?_
      rintro en w4 ⟨rfl, hb4⟩
      have hz4 := hb4.size
      have hcc0 := fun (o : Nat) => hb4.cell (p := ⟨w.heap.size, o, none⟩) (by (first | (simp; done) | (simp; omega) | omega))
      have hfc0 := fun (o : Nat) => hb4.frozen (p := ⟨w.heap.size, o, none⟩) (by (first | (simp; done) | (simp; omega) | omega))
      have hcc1 := fun (o : Nat) => hb4.cell (p := ⟨w.heap.size + 1, o, none⟩) (by (first | (simp; done) | (simp; omega) | omega))
      have hfc1 := fun (o : Nat) => hb4.frozen (p := ⟨w.heap.size + 1, o, none⟩) (by (first | (simp; done) | (simp; omega) | omega))
      have hlc0 : w.heap.size < w4.heap.size := by omega
      have hlc1 : w.heap.size + 1 < w4.heap.size := by omega
      have HX4 := Lib.hid (Bx.new w4 [.slice ak d.1.length ck, .slice aw d.2.length cw, .slice bk e.1.length dk, .slice bw e.2.length dw] 142)
      have i0 : ∀ V, (Instr.index 142 (.agg #[.slice ak d.1.length ck, .slice aw d.2.length cw, .slice bk e.1.length dk, .slice bw e.2.length dw]) (.int .i64 0)).run Try.prog V = .ok (.agg #[.slice ak d.1.length ck, .slice aw d.2.length cw]) V := fun _ => by kernel_rfl
      have i1 : ∀ V, (Instr.index 142 (.agg #[.slice ak d.1.length ck, .slice aw d.2.length cw, .slice bk e.1.length dk, .slice bw e.2.length dw]) (.int .i64 1)).run Try.prog V = .ok (.agg #[.slice bk e.1.length dk, .slice bw e.2.length dw]) V := fun _ => by kernel_rfl
      go_wp2_with fail
      refine wp_loop_rounds 3 ?_
      rw [rounds_succ]
      go_wp2_with fail
      refine (c_impl_Wrote_y ak aw ck cw d x (some ⟨g3, 0, none⟩) c3 (withSum r) _ (HD.out _ (by (repeat (first | with_reducible exact Below.refl _ _ | ((with_reducible refine bl_alloc ?_ ?_); (focus (first | (simp; done) | (simp; omega) | omega))) | ((with_reducible refine bl_set ?_ ?_); (focus (first | (simp; done) | (simp; omega) | omega))) | ((with_reducible refine bl_later ?_ ?_); (focus (first | (simp; done) | (simp; omega) | omega))) | with_reducible refine bl_drew ?_ | with_reducible refine bl_drewN ?_ | ((with_reducible refine bl_step (by assumption) ?_ ?_); (focus (first | (simp; done) | (simp; omega) | omega))))))) (Ho3.out.kp (by (repeat (first | with_reducible exact kp_refl | ((with_reducible refine kp_alloc ?_ ?_); (focus (first | (simp; done) | (simp; omega) | omega))) | ((with_reducible refine kp_set ?_ ?_); (focus (first | (simp; done) | (simp; omega) | omega))) | with_reducible refine kp_drew ?_ | with_reducible refine kp_drewN ?_ | ((with_reducible refine kp_step (by assumption) ?_ ?_); (focus (first | (simp; done) | (simp; omega) | omega))))))).read HO1.out hca).mono ?_
      rintro en w5 ⟨a5, c5, a6, c6, rfl, ho5, hb5⟩
      have hz5 := hb5.size
      simp only [World.size_alloc] at hz5 ho5
      have Ho5 := Lib.hid ho5
      clear ho5
      have HX5 : Hid (Bx w5 w4.heap.size [.slice ak d.1.length ck, .slice aw d.2.length cw, .slice bk e.1.length dk, .slice bw e.2.length dw]) := (HX4.out.alloc _).below hb5
      have hcd0 := fun (o : Nat) => hb5.cell (p := ⟨w.heap.size, o, none⟩) (by (first | (simp; done) | (simp; omega) | omega))
      have hfd0 := fun (o : Nat) => hb5.frozen (p := ⟨w.heap.size, o, none⟩) (by (first | (simp; done) | (simp; omega) | omega))
      have hcd1 := fun (o : Nat) => hb5.cell (p := ⟨w.heap.size + 1, o, none⟩) (by (first | (simp; done) | (simp; omega) | omega))
      have hfd1 := fun (o : Nat) => hb5.frozen (p := ⟨w.heap.size + 1, o, none⟩) (by (first | (simp; done) | (simp; omega) | omega))
      have hcd2 := fun (o : Nat) => hb5.cell (p := ⟨w4.heap.size, o, none⟩) (by (first | (simp; done) | (simp; omega) | omega))
      have hfd2 := fun (o : Nat) => hb5.frozen (p := ⟨w4.heap.size, o, none⟩) (by (first | (simp; done) | (simp; omega) | omega))
      have hld0 : w.heap.size < w5.heap.size := by omega
      have hld1 : w.heap.size + 1 < w5.heap.size := by omega
      have hld2 : w4.heap.size < w5.heap.size := by omega
      go_wp2_with fail
      rw [rounds_succ]
      go_wp2_with fail
      refine (c_impl_Wrote_n bk bw dk dw e x (some ⟨g3, 0, none⟩) c3 (withSum r) _ (HE.out _ (by (repeat (first | with_reducible exact Below.refl _ _ | ((with_reducible refine bl_alloc ?_ ?_); (focus (first | (simp; done) | (simp; omega) | omega))) | ((with_reducible refine bl_set ?_ ?_); (focus (first | (simp; done) | (simp; omega) | omega))) | ((with_reducible refine bl_later ?_ ?_); (focus (first | (simp; done) | (simp; omega) | omega))) | with_reducible refine bl_drew ?_ | with_reducible refine bl_drewN ?_ | ((with_reducible refine bl_step (by assumption) ?_ ?_); (focus (first | (simp; done) | (simp; omega) | omega))))))) (Ho3.out.kp (by (repeat (first | with_reducible exact kp_refl | ((with_reducible refine kp_alloc ?_ ?_); (focus (first | (simp; done) | (simp; omega) | omega))) | ((with_reducible refine kp_set ?_ ?_); (focus (first | (simp; done) | (simp; omega) | omega))) | with_reducible refine kp_drew ?_ | with_reducible refine kp_drewN ?_ | ((with_reducible refine kp_step (by assumption) ?_ ?_); (focus (first | (simp; done) | (simp; omega) | omega))))))).read HO2.out hcb).mono ?_
      rintro en w6 ⟨a7, c7, a8, c8, rfl, ho6, hb6⟩
      have hz6 := hb6.size
      simp only [World.size_alloc, World.size_setCell] at hz6 ho6
      have Ho6 := Lib.hid ho6
      clear ho6
      have hx6 : Bx w6 w4.heap.size [.slice a5 d.1.length c5, .slice a6 (d.2.length + 1) c6, .slice bk e.1.length dk, .slice bw e.2.length dw] := by
        refine Bx.below ?_ hb6
        repeat (refine Bx.alloc ?_ _)
        exact (HX5.out.set 0 _ (by simp)).set 1 _ (by simp)
      have qx6 := hx6.2
      clear hx6
      have hce0 := fun (o : Nat) => hb6.cell (p := ⟨w.heap.size, o, none⟩) (by (first | (simp; done) | (simp; omega) | omega))
      have hfe0 := fun (o : Nat) => hb6.frozen (p := ⟨w.heap.size, o, none⟩) (by (first | (simp; done) | (simp; omega) | omega))
      have hce1 := fun (o : Nat) => hb6.cell (p := ⟨w.heap.size + 1, o, none⟩) (by (first | (simp; done) | (simp; omega) | omega))
      have hfe1 := fun (o : Nat) => hb6.frozen (p := ⟨w.heap.size + 1, o, none⟩) (by (first | (simp; done) | (simp; omega) | omega))
      have hfg0 := fun (o : Nat) => hb6.frozen (p := ⟨w4.heap.size, o, none⟩) (by (first | (simp; done) | (simp; omega) | omega))
      have hle0 : w.heap.size < w6.heap.size := by omega
      have hle1 : w.heap.size + 1 < w6.heap.size := by omega
      have hle2 : w4.heap.size < w6.heap.size := by omega
      go_wp2_with fail
      refine (c_impl_copyTwo ak aw bk bw ck cw dk dw d e _ (HD.out _ (by (repeat (first | with_reducible exact Below.refl _ _ | ((with_reducible refine bl_alloc ?_ ?_); (focus (first | (simp; done) | (simp; omega) | omega))) | ((with_reducible refine bl_set ?_ ?_); (focus (first | (simp; done) | (simp; omega) | omega))) | ((with_reducible refine bl_later ?_ ?_); (focus (first | (simp; done) | (simp; omega) | omega))) | with_reducible refine bl_drew ?_ | with_reducible refine bl_drewN ?_ | ((with_reducible refine bl_step (by assumption) ?_ ?_); (focus (first | (simp; done) | (simp; omega) | omega))))))) (HE.out _ (by (repeat (first | with_reducible exact Below.refl _ _ | ((with_reducible refine bl_alloc ?_ ?_); (focus (first | (simp; done) | (simp; omega) | omega))) | ((with_reducible refine bl_set ?_ ?_); (focus (first | (simp; done) | (simp; omega) | omega))) | ((with_reducible refine bl_later ?_ ?_); (focus (first | (simp; done) | (simp; omega) | omega))) | with_reducible refine bl_drew ?_ | with_reducible refine bl_drewN ?_ | ((with_reducible refine bl_step (by assumption) ?_ ?_); (focus (first | (simp; done) | (simp; omega) | omega))))))) (diskOk_B HO1.out) (diskOk_B HO2.out)).mono ?_
      rintro en w9 ⟨b1, k1, b2, k2, b3, k3, b4, k4, rfl, hs9, hb9⟩
      have hz9 := hb9.size
      simp only [World.size_alloc] at hz9 hs9
      have Hs9 := Lib.hid hs9
      clear hs9
      have hcz0 := fun (o : Nat) => hb9.cell (p := ⟨w.heap.size + 1, o, none⟩) (by (first | (simp; done) | (simp; omega) | omega))
      have hfz0 := fun (o : Nat) => hb9.frozen (p := ⟨w.heap.size + 1, o, none⟩) (by (first | (simp; done) | (simp; omega) | omega))
      have hlz0 : w.heap.size < w9.heap.size := by omega
      have hlz1 : w.heap.size + 1 < w9.heap.size := by omega
      go_wp2_with fail
      refine bodyPost_ret (v := .tuple #[.agg #[.slice b1 d.1.length k1, .slice b2 d.2.length k2, .slice b3 e.1.length k3, .slice b4 e.2.length k4], .bool false]) (by simp [results, Try.results87, go_sem, *]) rfl ⟨b1, k1, b2, k2, b3, k3, b4, k4, rfl, ?_, ?_⟩
      · exact (Hs9.out.kp (by (repeat (first | with_reducible exact kp_refl | ((with_reducible refine kp_alloc ?_ ?_); (focus (first | (simp; done) | (simp; omega) | omega))) | ((with_reducible refine kp_set ?_ ?_); (focus (first | (simp; done) | (simp; omega) | omega))) | with_reducible refine kp_drew ?_ | with_reducible refine kp_drewN ?_ | ((with_reducible refine kp_step (by assumption) ?_ ?_); (focus (first | (simp; done) | (simp; omega) | omega))))))).wide (by omega) (by (first | (simp; done) | (simp; omega) | omega))
      · (repeat (first | with_reducible exact Below.refl _ _ | ((with_reducible refine bl_alloc ?_ ?_); (focus (first | (simp; done) | (simp; omega) | omega))) | ((with_reducible refine bl_set ?_ ?_); (focus (first | (simp; done) | (simp; omega) | omega))) | ((with_reducible refine bl_later ?_ ?_); (focus (first | (simp; done) | (simp; omega) | omega))) | with_reducible refine bl_drew ?_ | with_reducible refine bl_drewN ?_ | ((with_reducible refine bl_step (by assumption) ?_ ?_); (focus (first | (simp; done) | (simp; omega) | omega)))))
theorem c_impl_BothWrote_y (ak aw bk bw : Option Addr) (ck cw dk dw : Nat) (d e : List (List Int) × List (Int × List Int)) (x : Int) (ar : Option Addr) (cr : Nat) (r : List Int) (w : World) (h : DiskR w ak aw d) (h2 : DiskR w bk bw e) (hr : IntsR w ar r) (hT : twoOk d e = true) (hC : bothC d e x r = true) :
    Calls Try.prog 87 #[.agg #[.slice ak d.1.length ck, .slice aw d.2.length cw, .slice bk e.1.length dk, .slice bw e.2.length dw], .int .i64 x, .slice ar r.length cr] w fun en w' => ∃ a1 c1 a2 c2 a3 c3 a4 c4, en = .returned (.tuple #[.agg #[.slice a1 d.1.length c1, .slice a2 (d.2 ++ [(x, withSum r)]).length c2, .slice a3 e.1.length c3, .slice a4 (e.2 ++ [(x, withSum r)]).length c4], .bool true]) ∧ Sp twoO w' w.heap.size w'.heap.size ((d.1, d.2 ++ [(x, withSum r)]), (e.1, e.2 ++ [(x, withSum r)])) [.slice a1 d.1.length c1, .slice a2 (d.2 ++ [(x, withSum r)]).length c2, .slice a3 e.1.length c3, .slice a4 (e.2 ++ [(x, withSum r)]).length c4] ∧ Below w.heap.size w w' := by
  have HD : Hid (∀ V, Below w.heap.size w V → DiskR V ak aw d) := fun V hb => h.below hb
  have HE : Hid (∀ V, Below w.heap.size w V → DiskR V bk bw e) := fun V hb => h2.below hb
  clear h h2
  have HT := Lib.hid hT
  have HO1 := Lib.hid (twoOk_1 hT).1
  have HO2 := Lib.hid (twoOk_1 hT).2
  have HRo : Hid (∀ V, Below w.heap.size w V → IntsR V ar r) := fun V hb => hr.below hb
  clear hT hr
  have hC2 : withSum r ≠ [] ∧ canWrite d x (withSum r) = true ∧ canWrite e x (withSum r) = true := by
    unfold bothC at hC
    simpa using hC
  obtain ⟨hs0, hca, hcb⟩ := hC2
  clear hC
  obtain ⟨hr1, hr2, hrs⟩ := withSum_ne hs0
  have Hr1 := Lib.hid hr1
  have HS := Lib.hid hrs
  have hsl : (withSum r).length ≠ 0 := fun h => hs0 (List.eq_nil_of_length_eq_zero h)
  clear hs0 hr1 hrs
  have hnil := fun (V : World) (a : Option Addr) (n c : Nat) => Lib.run_eql_slice_nil (P := Try.prog) V 85 2 a n c 0 0 Try.underlying85
  go_enter Try.func87, Try.ntmps87
  go_wp2_with fail
  refine (c_impl_TwoOk ak aw bk bw ck cw dk dw d e _ (HD.out _ (by (repeat (first | with_reducible exact Below.refl _ _ | ((with_reducible refine bl_alloc ?_ ?_); (focus (first | (simp; done) | (simp; omega) | omega))) | ((with_reducible refine bl_set ?_ ?_); (focus (first | (simp; done) | (simp; omega) | omega))) | ((with_reducible refine bl_later ?_ ?_); (focus (first | (simp; done) | (simp; omega) | omega))) | with_reducible refine bl_drew ?_ | with_reducible refine bl_drewN ?_ | ((with_reducible refine bl_step (by assumption) ?_ ?_); (focus (first | (simp; done) | (simp; omega) | omega))))))) (HE.out _ (by (repeat (first | with_reducible exact Below.refl _ _ | ((with_reducible refine bl_alloc ?_ ?_); (focus (first | (simp; done) | (simp; omega) | omega))) | ((with_reducible refine bl_set ?_ ?_); (focus (first | (simp; done) | (simp; omega) | omega))) | ((with_reducible refine bl_later ?_ ?_); (focus (first | (simp; done) | (simp; omega) | omega))) | with_reducible refine bl_drew ?_ | with_reducible refine bl_drewN ?_ | ((with_reducible refine bl_step (by assumption) ?_ ?_); (focus (first | (simp; done) | (simp; omega) | omega)))))))).mono ?_
  rw [HT.out]
  rintro en w2 ⟨rfl, hb2⟩
  have hz2 := hb2.size
  simp only [World.size_alloc] at hz2
  have hca0 := fun (o : Nat) => hb2.cell (p := ⟨w.heap.size, o, none⟩) (by (first | (simp; done) | (simp; omega) | omega))
  have hfa0 := fun (o : Nat) => hb2.frozen (p := ⟨w.heap.size, o, none⟩) (by (first | (simp; done) | (simp; omega) | omega))
  have hca1 := fun (o : Nat) => hb2.cell (p := ⟨w.heap.size + 1, o, none⟩) (by (first | (simp; done) | (simp; omega) | omega))
  have hfa1 := fun (o : Nat) => hb2.frozen (p := ⟨w.heap.size + 1, o, none⟩) (by (first | (simp; done) | (simp; omega) | omega))
  have hla0 : w.heap.size < w2.heap.size := by omega
  have hla1 : w.heap.size + 1 < w2.heap.size := by omega
  go_wp2_with fail
  refine (c_impl_WithSum_y ar cr r _ (HRo.out _ (by (repeat (first | with_reducible exact Below.refl _ _ | ((with_reducible refine bl_alloc ?_ ?_); (focus (first | (simp; done) | (simp; omega) | omega))) | ((with_reducible refine bl_set ?_ ?_); (focus (first | (simp; done) | (simp; omega) | omega))) | ((with_reducible refine bl_later ?_ ?_); (focus (first | (simp; done) | (simp; omega) | omega))) | with_reducible refine bl_drew ?_ | with_reducible refine bl_drewN ?_ | ((with_reducible refine bl_step (by assumption) ?_ ?_); (focus (first | (simp; done) | (simp; omega) | omega))))))) Hr1.out hr2).mono ?_
  rw [← HS.out]
  rintro en w3 ⟨a3, c3, rfl, ho3, hb3⟩
  have hz3 := hb3.size
  obtain ⟨g3, rfl⟩ := ints_some ho3 hsl
  have Ho3 := Lib.hid ho3
  clear ho3
  have hcb0 := fun (o : Nat) => hb3.cell (p := ⟨w.heap.size, o, none⟩) (by (first | (simp; done) | (simp; omega) | omega))
  have hfb0 := fun (o : Nat) => hb3.frozen (p := ⟨w.heap.size, o, none⟩) (by (first | (simp; done) | (simp; omega) | omega))
  have hcb1 := fun (o : Nat) => hb3.cell (p := ⟨w.heap.size + 1, o, none⟩) (by (first | (simp; done) | (simp; omega) | omega))
  have hfb1 := fun (o : Nat) => hb3.frozen (p := ⟨w.heap.size + 1, o, none⟩) (by (first | (simp; done) | (simp; omega) | omega))
  have hlb0 : w.heap.size < w3.heap.size := by omega
  have hlb1 : w.heap.size + 1 < w3.heap.size := by omega
  go_wp2_with fail
  refine (c_impl_disks ak aw bk bw d.1.length d.2.length e.1.length e.2.length ck cw dk dw _).mono ?_
  rintro en w4 ⟨rfl, hb4⟩
  have hz4 := hb4.size
  have hcc0 := fun (o : Nat) => hb4.cell (p := ⟨w.heap.size, o, none⟩) (by (first | (simp; done) | (simp; omega) | omega))
  have hfc0 := fun (o : Nat) => hb4.frozen (p := ⟨w.heap.size, o, none⟩) (by (first | (simp; done) | (simp; omega) | omega))
  have hcc1 := fun (o : Nat) => hb4.cell (p := ⟨w.heap.size + 1, o, none⟩) (by (first | (simp; done) | (simp; omega) | omega))
  have hfc1 := fun (o : Nat) => hb4.frozen (p := ⟨w.heap.size + 1, o, none⟩) (by (first | (simp; done) | (simp; omega) | omega))
  have hlc0 : w.heap.size < w4.heap.size := by omega
  have hlc1 : w.heap.size + 1 < w4.heap.size := by omega
  have HX4 := Lib.hid (Bx.new w4 [.slice ak d.1.length ck, .slice aw d.2.length cw, .slice bk e.1.length dk, .slice bw e.2.length dw] 142)
  have i0 : ∀ V, (Instr.index 142 (.agg #[.slice ak d.1.length ck, .slice aw d.2.length cw, .slice bk e.1.length dk, .slice bw e.2.length dw]) (.int .i64 0)).run Try.prog V = .ok (.agg #[.slice ak d.1.length ck, .slice aw d.2.length cw]) V := fun _ => by kernel_rfl
  have i1 : ∀ V, (Instr.index 142 (.agg #[.slice ak d.1.length ck, .slice aw d.2.length cw, .slice bk e.1.length dk, .slice bw e.2.length dw]) (.int .i64 1)).run Try.prog V = .ok (.agg #[.slice bk e.1.length dk, .slice bw e.2.length dw]) V := fun _ => by kernel_rfl
  go_wp2_with fail
  refine wp_loop_rounds 3 ?_
  rw [rounds_succ]
  go_wp2_with fail
  refine (c_impl_Wrote_y ak aw ck cw d x (some ⟨g3, 0, none⟩) c3 (withSum r) _ (HD.out _ (by (repeat (first | with_reducible exact Below.refl _ _ | ((with_reducible refine bl_alloc ?_ ?_); (focus (first | (simp; done) | (simp; omega) | omega))) | ((with_reducible refine bl_set ?_ ?_); (focus (first | (simp; done) | (simp; omega) | omega))) | ((with_reducible refine bl_later ?_ ?_); (focus (first | (simp; done) | (simp; omega) | omega))) | with_reducible refine bl_drew ?_ | with_reducible refine bl_drewN ?_ | ((with_reducible refine bl_step (by assumption) ?_ ?_); (focus (first | (simp; done) | (simp; omega) | omega))))))) (Ho3.out.kp (by (repeat (first | with_reducible exact kp_refl | ((with_reducible refine kp_alloc ?_ ?_); (focus (first | (simp; done) | (simp; omega) | omega))) | ((with_reducible refine kp_set ?_ ?_); (focus (first | (simp; done) | (simp; omega) | omega))) | with_reducible refine kp_drew ?_ | with_reducible refine kp_drewN ?_ | ((with_reducible refine kp_step (by assumption) ?_ ?_); (focus (first | (simp; done) | (simp; omega) | omega))))))).read HO1.out hca).mono ?_
  rintro en w5 ⟨a5, c5, a6, c6, rfl, ho5, hb5⟩
  have hz5 := hb5.size
  simp only [World.size_alloc] at hz5 ho5
  have Ho5 := Lib.hid ho5
  clear ho5
  have HX5 : Hid (Bx w5 w4.heap.size [.slice ak d.1.length ck, .slice aw d.2.length cw, .slice bk e.1.length dk, .slice bw e.2.length dw]) := (HX4.out.alloc _).below hb5
  have hcd0 := fun (o : Nat) => hb5.cell (p := ⟨w.heap.size, o, none⟩) (by (first | (simp; done) | (simp; omega) | omega))
  have hfd0 := fun (o : Nat) => hb5.frozen (p := ⟨w.heap.size, o, none⟩) (by (first | (simp; done) | (simp; omega) | omega))
  have hcd1 := fun (o : Nat) => hb5.cell (p := ⟨w.heap.size + 1, o, none⟩) (by (first | (simp; done) | (simp; omega) | omega))
  have hfd1 := fun (o : Nat) => hb5.frozen (p := ⟨w.heap.size + 1, o, none⟩) (by (first | (simp; done) | (simp; omega) | omega))
  have hcd2 := fun (o : Nat) => hb5.cell (p := ⟨w4.heap.size, o, none⟩) (by (first | (simp; done) | (simp; omega) | omega))
  have hfd2 := fun (o : Nat) => hb5.frozen (p := ⟨w4.heap.size, o, none⟩) (by (first | (simp; done) | (simp; omega) | omega))
  have hld0 : w.heap.size < w5.heap.size := by omega
  have hld1 : w.heap.size + 1 < w5.heap.size := by omega
  have hld2 : w4.heap.size < w5.heap.size := by omega
  go_wp2_with fail
  rw [rounds_succ]
  go_wp2_with fail
  refine (c_impl_Wrote_y bk bw dk dw e x (some ⟨g3, 0, none⟩) c3 (withSum r) _ (HE.out _ (by (repeat (first | with_reducible exact Below.refl _ _ | ((with_reducible refine bl_alloc ?_ ?_); (focus (first | (simp; done) | (simp; omega) | omega))) | ((with_reducible refine bl_set ?_ ?_); (focus (first | (simp; done) | (simp; omega) | omega))) | ((with_reducible refine bl_later ?_ ?_); (focus (first | (simp; done) | (simp; omega) | omega))) | with_reducible refine bl_drew ?_ | with_reducible refine bl_drewN ?_ | ((with_reducible refine bl_step (by assumption) ?_ ?_); (focus (first | (simp; done) | (simp; omega) | omega))))))) (Ho3.out.kp (by (repeat (first | with_reducible exact kp_refl | ((with_reducible refine kp_alloc ?_ ?_); (focus (first | (simp; done) | (simp; omega) | omega))) | ((with_reducible refine kp_set ?_ ?_); (focus (first | (simp; done) | (simp; omega) | omega))) | with_reducible refine kp_drew ?_ | with_reducible refine kp_drewN ?_ | ((with_reducible refine kp_step (by assumption) ?_ ?_); (focus (first | (simp; done) | (simp; omega) | omega))))))).read HO2.out hcb).mono ?_
  rintro en w6 ⟨a7, c7, a8, c8, rfl, ho6, hb6⟩
  have hz6 := hb6.size
  simp only [World.size_alloc, World.size_setCell] at hz6 ho6
  have Ho6 := Lib.hid ho6
  clear ho6
  have hx6 : Bx w6 w4.heap.size [.slice a5 d.1.length c5, .slice a6 (d.2.length + 1) c6, .slice bk e.1.length dk, .slice bw e.2.length dw] := by
    refine Bx.below ?_ hb6
    repeat (refine Bx.alloc ?_ _)
    exact (HX5.out.set 0 _ (by simp)).set 1 _ (by simp)
  have qx6 := hx6.2
  clear hx6
  have hce0 := fun (o : Nat) => hb6.cell (p := ⟨w.heap.size, o, none⟩) (by (first | (simp; done) | (simp; omega) | omega))
  have hfe0 := fun (o : Nat) => hb6.frozen (p := ⟨w.heap.size, o, none⟩) (by (first | (simp; done) | (simp; omega) | omega))
  have hce1 := fun (o : Nat) => hb6.cell (p := ⟨w.heap.size + 1, o, none⟩) (by (first | (simp; done) | (simp; omega) | omega))
  have hfe1 := fun (o : Nat) => hb6.frozen (p := ⟨w.heap.size + 1, o, none⟩) (by (first | (simp; done) | (simp; omega) | omega))
  have hfg0 := fun (o : Nat) => hb6.frozen (p := ⟨w4.heap.size, o, none⟩) (by (first | (simp; done) | (simp; omega) | omega))
  have hle0 : w.heap.size < w6.heap.size := by omega
  have hle1 : w.heap.size + 1 < w6.heap.size := by omega
  have hle2 : w4.heap.size < w6.heap.size := by omega
  go_wp2_with fail
  rw [rounds_succ]
  go_wp2_with fail
  refine (c_impl_twoOf a5 a6 a7 a8 d.1.length (d.2.length + 1) e.1.length (e.2.length + 1) c5 c6 c7 c8 _).mono ?_
  rintro en w7 ⟨rfl, hb7⟩
  have hz7 := hb7.size
  simp only [World.size_alloc, World.size_setCell] at hz7
  have hcf0 := fun (o : Nat) => hb7.cell (p := ⟨w.heap.size + 1, o, none⟩) (by (first | (simp; done) | (simp; omega) | omega))
  have hff0 := fun (o : Nat) => hb7.frozen (p := ⟨w.heap.size + 1, o, none⟩) (by (first | (simp; done) | (simp; omega) | omega))
  have hlf0 : w.heap.size < w7.heap.size := by omega
  have hlf1 : w.heap.size + 1 < w7.heap.size := by omega
  go_wp2_with fail
  refine bodyPost_ret (v := .tuple #[.agg #[.slice a5 d.1.length c5, .slice a6 (d.2.length + 1) c6, .slice a7 e.1.length c7, .slice a8 (e.2.length + 1) c8], .bool true]) (by simp [results, Try.results87, go_sem, *]) rfl ⟨a5, c5, a6, c6, a7, c7, a8, c8, by simp, ?_, ?_⟩
  · exact Sp.wide (lo := w4.heap.size + 1) (hi := w6.heap.size) (Sp.pair (mid := w5.heap.size) (mid' := w5.heap.size) (va := [.slice a5 d.1.length c5, .slice a6 (d.2 ++ [(x, withSum r)]).length c6]) (vb := [.slice a7 e.1.length c7, .slice a8 (e.2 ++ [(x, withSum r)]).length c8]) ((Ho5.out.wide (by omega) (Nat.le_refl _)).sp.kp (by (repeat (first | with_reducible exact kp_refl | ((with_reducible refine kp_alloc ?_ ?_); (focus (first | (simp; done) | (simp; omega) | omega))) | ((with_reducible refine kp_set ?_ ?_); (focus (first | (simp; done) | (simp; omega) | omega))) | with_reducible refine kp_drew ?_ | with_reducible refine kp_drewN ?_ | ((with_reducible refine kp_step (by assumption) ?_ ?_); (focus (first | (simp; done) | (simp; omega) | omega))))))) ((Ho6.out.wide (by omega) (Nat.le_refl _)).sp.kp (by (repeat (first | with_reducible exact kp_refl | ((with_reducible refine kp_alloc ?_ ?_); (focus (first | (simp; done) | (simp; omega) | omega))) | ((with_reducible refine kp_set ?_ ?_); (focus (first | (simp; done) | (simp; omega) | omega))) | with_reducible refine kp_drew ?_ | with_reducible refine kp_drewN ?_ | ((with_reducible refine kp_step (by assumption) ?_ ?_); (focus (first | (simp; done) | (simp; omega) | omega))))))) (Nat.le_refl _) (by omega) (by omega)) (by omega) (by (first | (simp; done) | (simp; omega) | omega))
  · (repeat (first | with_reducible exact Below.refl _ _ | ((with_reducible refine bl_alloc ?_ ?_); (focus (first | (simp; done) | (simp; omega) | omega))) | ((with_reducible refine bl_set ?_ ?_); (focus (first | (simp; done) | (simp; omega) | omega))) | ((with_reducible refine bl_later ?_ ?_); (focus (first | (simp; done) | (simp; omega) | omega))) | with_reducible refine bl_drew ?_ | with_reducible refine bl_drewN ?_ | ((with_reducible refine bl_step (by assumption) ?_ ?_); (focus (first | (simp; done) | (simp; omega) | omega)))))

end Go.Proofs.Ytmjafclpeknpcaa
