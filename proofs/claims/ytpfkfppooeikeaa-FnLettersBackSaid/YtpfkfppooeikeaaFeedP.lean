/- Walks of functions of the program, printed by a program of the prover. -/
import Derived.Test.YtpfkfppooeikeaaFeedF
import Derived.Test.YtpfkfppooeikeaaFeedE
import Derived.Test.YtpfkfppooeikeaaCut
import Derived.WalkKit
import Derived.WalkSpells
import Derived.Deep.QuietTactic
import Derived.BigQuiet
import Derived.Deep.Light
import Derived.Lib.Hide
import Derived.Deep.RegionHeld3
namespace Go.Proofs.Ytpfkfppooeikeaa
open Go.ChangeShapes Go.WideShapes Go.ChangeAt Go.RowKit Go.Deep
set_option maxHeartbeats 800000
set_option maxRecDepth 100000

def chunk9 : List Int → List (Int × Int × Int × Int × Int × Int × Int × Int × Int)
  | x0 :: x1 :: x2 :: x3 :: x4 :: x5 :: x6 :: x7 :: x8 :: r => (x0, x1, x2, x3, x4, x5, x6, x7, x8) :: chunk9 r
  | _ => []
def entFix (e : Int × Int × Int × Int × Int × Int × Int × Int × Int) : Int × Int × Int × Int × Int × Int × Int × Int × Int := if entB e = true then e else (0, 0, 0, 0, 0, 0, 0, 0, 0)
def isFeed : List Int → Bool
  | x0 :: p0 :: p1 :: r => decide (r.length ≤ 27) && (decide (r.length % 9 = 0) && ((x0 == 4) && feedOk p0 p1 (chunk9 r)))
  | _ => false
def feedHead0 : List Int → Int × Int
  | _ :: p0 :: p1 :: _ => (p0, p1)
  | _ => (0, 0)
def feedHead (l : List Int) : Int × Int := if isFeed l then feedHead0 l else (0, 0)
def feedOpen (l : List Int) : List (Int × Int × Int × Int × Int × Int × Int × Int × Int) := if isFeed l then chunk9 (l.drop 3) else []
def RetRowFeed (w : World) (l : List Int) (e : Ending) (w' : World) : Prop :=
  ∃ (ao : Option Addr) (cap : Nat), e = .returned (.tuple #[.agg #[.int .i64 (feedHead l).1, .int .i64 (feedHead l).2, .slice ao (feedOpen l).length cap], .bool (isFeed l)]) ∧
    OwnA entryE w' w.heap.size 70 (.slice ao (feedOpen l).length cap) (feedOpen l) ∧ Below w.heap.size w w'
theorem retRowFeed_no {w w' : World} {l : List Int} (h : isFeed l = false) (hb : Below w.heap.size w w') : RetRowFeed w l (.returned (.tuple #[.agg #[.int .i64 0, .int .i64 0, .slice none 0 0], .bool false])) w' := by
  have e1 : feedHead l = (0, 0) := by simp [feedHead, h]
  have e2 : feedOpen l = [] := by simp [feedOpen, h]
  refine ⟨none, 0, by rw [e1, e2, h]; rfl, ?_, hb⟩
  rw [e2]
  exact ownA_nil _ _ _ _
theorem retRowFeed_yes {w w' : World} {x0 p0 p1 : Int} {r : List Int} {ao : Option Addr} {cap : Nat} (h : isFeed (x0 :: p0 :: p1 :: r) = true) (ho : OwnA entryE w' w.heap.size 70 (.slice ao (chunk9 r).length cap) (chunk9 r)) (hb : Below w.heap.size w w') :
    RetRowFeed w (x0 :: p0 :: p1 :: r) (.returned (.tuple #[.agg #[.int .i64 p0, .int .i64 p1, .slice ao (chunk9 r).length cap], .bool true])) w' := by
  have e1 : feedHead (x0 :: p0 :: p1 :: r) = (p0, p1) := by simp [feedHead, feedHead0, h]
  have e2 : feedOpen (x0 :: p0 :: p1 :: r) = chunk9 r := by simp [feedOpen, h]
  refine ⟨ao, cap, by rw [e1, e2, h], ?_, hb⟩
  rw [e2]
  exact ho
theorem isFeed_short {l : List Int} (h : l.length < 3) : isFeed l = false := by
  match l, h with
  | [], _ => rfl
  | [_], _ => rfl
  | [_, _], _ => rfl
  | _ :: _ :: _ :: _, h => simp at h; omega
theorem three {l : List Int} (h : 3 ≤ l.length) : ∃ x0 p0 p1 r, l = x0 :: p0 :: p1 :: r := by
  match l, h with
  | x0 :: p0 :: p1 :: r, _ => exact ⟨x0, p0, p1, r, rfl⟩
  | [], h => simp at h
  | [_], h => simp at h
  | [_, _], h => simp at h
theorem isFeed_long {l : List Int} (h : 30 < l.length) : isFeed l = false := by
  obtain ⟨x0, p0, p1, r, rfl⟩ := three (l := l) (by omega)
  have : decide (r.length ≤ 27) = false := by simp at h ⊢; omega
  simp [isFeed, this]
theorem isFeed_odd {l : List Int} (h : l.length % 9 ≠ 3) : isFeed l = false := by
  by_cases h6 : l.length < 3
  · exact isFeed_short h6
  · obtain ⟨x0, p0, p1, r, rfl⟩ := three (l := l) (by omega)
    have : decide (r.length % 9 = 0) = false := by simp only [List.length_cons] at h; simp; omega
    simp [isFeed, this]
theorem cut9 {q : List Int} (h : 9 ≤ q.length) : ∃ x0 x1 x2 x3 x4 x5 x6 x7 x8 q', q = x0 :: x1 :: x2 :: x3 :: x4 :: x5 :: x6 :: x7 :: x8 :: q' := by
  obtain ⟨x0, q0, rfl⟩ : ∃ x z, q = x :: z := by cases q with | nil => simp at h | cons a b => exact ⟨a, b, rfl⟩
  obtain ⟨x1, q1, rfl⟩ : ∃ x z, q0 = x :: z := by cases q0 with | nil => simp at h | cons a b => exact ⟨a, b, rfl⟩
  obtain ⟨x2, q2, rfl⟩ : ∃ x z, q1 = x :: z := by cases q1 with | nil => simp at h | cons a b => exact ⟨a, b, rfl⟩
  obtain ⟨x3, q3, rfl⟩ : ∃ x z, q2 = x :: z := by cases q2 with | nil => simp at h | cons a b => exact ⟨a, b, rfl⟩
  obtain ⟨x4, q4, rfl⟩ : ∃ x z, q3 = x :: z := by cases q3 with | nil => simp at h | cons a b => exact ⟨a, b, rfl⟩
  obtain ⟨x5, q5, rfl⟩ : ∃ x z, q4 = x :: z := by cases q4 with | nil => simp at h | cons a b => exact ⟨a, b, rfl⟩
  obtain ⟨x6, q6, rfl⟩ : ∃ x z, q5 = x :: z := by cases q5 with | nil => simp at h | cons a b => exact ⟨a, b, rfl⟩
  obtain ⟨x7, q7, rfl⟩ : ∃ x z, q6 = x :: z := by cases q6 with | nil => simp at h | cons a b => exact ⟨a, b, rfl⟩
  obtain ⟨x8, q8, rfl⟩ : ∃ x z, q7 = x :: z := by cases q7 with | nil => simp at h | cons a b => exact ⟨a, b, rfl⟩
  exact ⟨x0, x1, x2, x3, x4, x5, x6, x7, x8, q8, rfl⟩
theorem chunk9_short {q : List Int} (h : q.length < 9) : chunk9 q = [] := by
  unfold chunk9
  split
  · simp at h; omega
  · rfl
theorem feedOk_mem {bs la : Int} {l : List (Int × Int × Int × Int × Int × Int × Int × Int × Int)} {e : Int × Int × Int × Int × Int × Int × Int × Int × Int} (he : e ∈ l) (h : entB e = false) : feedOk bs la l = false := by
  obtain ⟨i, hi, rfl⟩ := List.getElem_of_mem he
  refine feedOk_f4 (entsOk_bad hi ?_)
  rw [entAt_eq hi, entOk1, h]
  rfl
theorem entB_zero : entB (0, 0, 0, 0, 0, 0, 0, 0, 0) = false := by decide
theorem map_fix {l : List (Int × Int × Int × Int × Int × Int × Int × Int × Int)} (h : ∀ e ∈ l, entB e = true) : l.map entFix = l := by
  induction l with
  | nil => rfl
  | cons e l ih =>
    rw [List.map_cons, ih (fun x hx => h x (by simp [hx]))]
    simp [entFix, h e (by simp)]
theorem feedOk_fix (bs la : Int) (l : List (Int × Int × Int × Int × Int × Int × Int × Int × Int)) : feedOk bs la (l.map entFix) = feedOk bs la l := by
  by_cases h : ∀ e ∈ l, entB e = true
  · rw [map_fix h]
  · have : ∃ e ∈ l, entB e = false := by
      apply Classical.byContradiction
      intro hc
      refine h fun e he => ?_
      cases hb : entB e
      · exact absurd ⟨e, he, hb⟩ hc
      · rfl
    obtain ⟨e, he, hb⟩ := this
    rw [feedOk_mem he hb, feedOk_mem (e := entFix e) (List.mem_map.2 ⟨e, he, rfl⟩) (by simp only [entFix, hb]; exact entB_zero)]
theorem feedOk_all {bs la : Int} {l : List (Int × Int × Int × Int × Int × Int × Int × Int × Int)} (h : feedOk bs la l = true) : ∀ e ∈ l, entB e = true := by
  intro e he
  cases hb : entB e
  · rw [feedOk_mem he hb] at h; simp at h
  · rfl
theorem chunk_flat : ∀ (m : Nat) (r : List Int), r.length = 9 * m → (chunk9 r).flatMap entryNums = r
  | 0, r, h => by
    obtain rfl : r = [] := List.eq_nil_of_length_eq_zero (by omega)
    rfl
  | m + 1, r, h => by
    obtain ⟨x0, x1, x2, x3, x4, x5, x6, x7, x8, q, rfl⟩ := cut9 (q := r) (by omega)
    have h3 := chunk_flat m q (by simp at h; omega)
    simp only [chunk9, List.flatMap_cons, entryNums, h3, List.cons_append, List.nil_append]
theorem len_chunk : ∀ (m : Nat) (r : List Int), r.length ≤ 9 * m → (chunk9 r).length = r.length / 9
  | 0, r, h => by
    obtain rfl : r = [] := List.eq_nil_of_length_eq_zero (by omega)
    rfl
  | m + 1, r, h => by
    by_cases h9 : r.length < 9
    · rw [chunk9_short h9]; simp; omega
    · obtain ⟨x0, x1, x2, x3, x4, x5, x6, x7, x8, q, rfl⟩ := cut9 (q := r) (by omega)
      have h3 := len_chunk m q (by simp at h; omega)
      simp only [chunk9, List.length_cons, h3]; omega
theorem feed_fields_eq {p0 p1 : Int} {r : List Int} : (fieldsFeed p0 p1 (chunk9 r) == p0 :: p1 :: r) = decide (r.length % 9 = 0) := by
  by_cases h : r.length % 9 = 0
  · have h1 := chunk_flat (r.length / 9) r (by omega)
    simp [fieldsFeed, h1, h]
  · have h1 := len_chunk r.length r (by omega)
    have h2 : fieldsFeed p0 p1 (chunk9 r) ≠ p0 :: p1 :: r := fun e => by
      have h3 := congrArg List.length e
      rw [fieldsFeed, List.length_append, length_flat len_entryNums, h1] at h3
      simp only [List.length_cons, List.length_nil] at h3
      omega
    rw [beq_eq_false_iff_ne.2 h2]
    simp [h]
theorem opOk_nums {k a b x y : Int} (h : opOk k a b x y = true) : (0 ≤ k ∧ k ≤ 5) ∧ (0 ≤ a ∧ a ≤ 1000) ∧ (0 ≤ b ∧ b ≤ 1000000) ∧ (0 ≤ x ∧ x ≤ 9) ∧ (0 ≤ y ∧ y ≤ 999) := by
  unfold opOk at h
  split at h
  · simp [inB] at h; omega
  · split at h
    · simp [inB] at h; omega
    · split at h
      · simp [inB] at h; omega
      · split at h
        · simp [inB] at h; omega
        · split at h
          · simp [inB] at h; omega
          · simp at h
theorem entB_nums {e : Int × Int × Int × Int × Int × Int × Int × Int × Int} (h : entB e = true) : ∀ x ∈ entryNums e, numOk x = true := by
  obtain ⟨i, t, c, s, k, a, b, x, y⟩ := e
  simp only [entB, entryOk, Bool.and_eq_true] at h
  obtain ⟨h1, h2, h3, h4, h5⟩ := h
  have h6 := opOk_nums h5
  simp only [inB, Bool.and_eq_true, decide_eq_true_eq] at h1 h2 h3 h4
  intro z hz
  simp only [entryNums, List.mem_cons, List.not_mem_nil, or_false] at hz
  rcases hz with rfl | rfl | rfl | rfl | rfl | rfl | rfl | rfl | rfl <;> (simp [numOk]; omega)
theorem isFeed_kind {l : List Int} (h : isFeed l = true) : kindOf l = 4 := by
  by_cases h6 : l.length < 3
  · rw [isFeed_short h6] at h; simp at h
  · obtain ⟨x0, p0, p1, r, rfl⟩ := three (l := l) (by omega)
    simp only [isFeed, Bool.and_eq_true, decide_eq_true_eq, beq_iff_eq] at h
    obtain ⟨h1, h2, rfl, h3⟩ := h
    have hok : rowOk (4 :: p0 :: p1 :: r) = true := by
      refine rowOk_good (by simp; omega) fun i hi => ?_
      have hall : ∀ x ∈ (4 :: p0 :: p1 :: r), numOk x = true := by
        have hr : ∀ x ∈ r, numOk x = true := fun x hx => by
          rw [← chunk_flat (r.length / 9) r (by omega), List.mem_flatMap] at hx
          obtain ⟨e, he, hx⟩ := hx
          exact entB_nums (feedOk_all h3 e he) x hx
        simp only [feedOk, inB, Bool.and_eq_true, decide_eq_true_eq] at h3
        intro x hx
        simp only [List.mem_cons] at hx
        rcases hx with rfl | rfl | rfl | hx
        · rfl
        · simp [numOk]; omega
        · simp [numOk]; omega
        · exact hr x hx
      exact hall _ (List.getElem_mem hi)
    unfold kindOf
    rw [hok]
    simp [inB]
theorem isFeed_ne {l : List Int} (h : (kindOf l != 4) = true) : isFeed l = false := by
  cases hj : isFeed l
  · rfl
  · rw [isFeed_kind hj] at h; simp at h
theorem entry_one : ∀ d : Int × Int × Int × Int × Int × Int × Int × Int × Int, ∀ u ∈ entryE.cells d, u.oneCell' = true := by
  intro d u hu
  simp only [entryE, entryCells, List.mem_cons, List.not_mem_nil, or_false] at hu
  rcases hu with rfl | rfl | rfl | rfl | rfl | rfl | rfl | rfl | rfl <;> rfl
theorem lit_entry (W : World) (A : Obj) (x0 x1 x2 x3 x4 x5 x6 x7 x8 : Int) (hok : entryE.ok (x0, x1, x2, x3, x4, x5, x6, x7, x8)) : OwnA entryE ((W.alloc A).alloc (.cells ([.int .i64 x0, .int .i64 x1, .int .i64 x2, .int .i64 x3, .int .i64 x4, .int .i64 x5, .int .i64 x6, .int .i64 x7, .int .i64 x8] : List Value).toArray 70)) 0 70 (.slice (some ⟨W.heap.size + 1, 0, none⟩) 1 1) [(x0, x1, x2, x3, x4, x5, x6, x7, x8)] := by
  have h := ownA_lit entryE (W.alloc A) 0 70 (x0, x1, x2, x3, x4, x5, x6, x7, x8) (Nat.zero_le _) hok
  rw [World.size_alloc] at h
  exact h

end Go.Proofs.Ytpfkfppooeikeaa
