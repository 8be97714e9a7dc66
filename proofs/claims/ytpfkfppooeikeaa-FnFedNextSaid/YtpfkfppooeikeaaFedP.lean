/- Walks of functions of the program, printed by a program of the prover. -/
import Derived.Test.YtpfkfppooeikeaaRollBoth
import Derived.Test.YtpfkfppooeikeaaFeedE
import Derived.WalkKit
import Derived.WalkSpells
import Derived.Deep.QuietTactic
import Derived.BigQuiet
import Derived.Deep.Light
import Derived.Lib.Hide
import Derived.Deep.RegionHeld3
namespace Go.Proofs.Ytpfkfppooeikeaa
open Go.ChangeShapes Go.WideShapes Go.ChangeAt Go.RowKit Go.Deep
set_option maxHeartbeats 800000
set_option maxRecDepth 100000

theorem feedOk_each {bs la : Int} {D : List (Int × Int × Int × Int × Int × Int × Int × Int × Int)} (h : feedOk bs la D = true) {j : Nat} (hj : j < D.length) : bs < D[j].1 ∧ D[j].1 ≤ la := by
  simp only [feedOk, Bool.and_eq_true, List.all_eq_true] at h
  have h1 := h.2.2.2.2 _ (List.getElem_mem hj)
  simpa [feedIn] using h1
theorem feedOk_low {bs : Int} {D : List (Int × Int × Int × Int × Int × Int × Int × Int × Int)} {j : Nat} (hj : j < D.length) {x : Int} (hx : D[j].1 = x) : feedOk bs (x - 1) D = false := by
  rw [← Bool.not_eq_true]
  intro h
  have := (feedOk_each h hj).2
  omega
theorem feedOk_high {la : Int} {D : List (Int × Int × Int × Int × Int × Int × Int × Int × Int)} (hj : 0 < D.length) {x : Int} (hx : D[0].1 = x) : feedOk x la D = false := by
  rw [← Bool.not_eq_true]
  intro h
  have := (feedOk_each h hj).1
  omega
theorem feedOk_ents {bs la : Int} {D : List (Int × Int × Int × Int × Int × Int × Int × Int × Int)} (h : feedOk bs la D = true) : entsOk D = true ∧ D.length ≤ 3 := by
  simp only [feedOk, Bool.and_eq_true, decide_eq_true_eq] at h
  exact ⟨h.2.2.2.1, h.2.2.1⟩
theorem feedOk_twice {bs la : Int} {D : List (Int × Int × Int × Int × Int × Int × Int × Int × Int)} (hj : 0 < D.length) : feedOk bs la (D ++ D.drop (D.length - 1)) = false := by
  rw [← Bool.not_eq_true]
  intro h
  have hl : (D ++ D.drop (D.length - 1)).length = D.length + 1 := by simp; omega
  have h1 := entsOk_at (feedOk_ents h).1 (k := D.length) (by omega)
  rw [entAt_eq (by omega)] at h1
  obtain ⟨q, hq⟩ : ∃ q, D.length = q + 1 := ⟨D.length - 1, by omega⟩
  have e1 : (D ++ D.drop (D.length - 1))[D.length]'(by omega) = D[q]'(by omega) := by
    rw [List.getElem_append_right (Nat.le_refl _), List.getElem_drop]
    congr 1
    omega
  have e2 : (D ++ D.drop (D.length - 1))[q]'(by omega) = D[q]'(by omega) := List.getElem_append_left (by omega)
  rw [e1] at h1
  have h2 : entOk1 (D ++ D.drop (D.length - 1)) (q + 1) (D[q]'(by omega)) = true := by rw [← hq]; exact h1
  rw [entOk1_succ (by omega), e2] at h2
  simp only [Bool.and_eq_true, beq_iff_eq] at h2
  have := h2.2.1
  omega
theorem len_rowFeed {bs la : Int} {D : List (Int × Int × Int × Int × Int × Int × Int × Int × Int)} (h : feedOk bs la D = true) : (rowFeed bs la D).length = 9 * D.length + 3 := by
  rw [rowFeed_t h, List.length_append, length_flat (c := 9) (fun _ => rfl)]
  simp only [List.length_cons, List.length_nil]
  omega

end Go.Proofs.Ytpfkfppooeikeaa
