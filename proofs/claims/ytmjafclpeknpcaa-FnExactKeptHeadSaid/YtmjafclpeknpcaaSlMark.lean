/- Slices of rows of cells, marked element by element. -/
import Derived.Test.YtmjafclpeknpcaaSl
namespace Go.Proofs.Ytmjafclpeknpcaa
open Go.ChangeShapes Go.WideShapes Go.ChangeAt Go.RowKit Go.Deep

def szB (left : Int) (n : Nat) : Int := if left - n < 0 then -1 else left - n
theorem szB_neg {left : Int} {n : Nat} (h : left - n < 0) : szB left n = -1 := if_pos h
theorem szB_pos {left : Int} {n : Nat} (h : ¬ left - n < 0) : szB left n = left - n := if_neg h
section
variable {α : Type}
def markA (mk : Int → Nat → α) (l : List α) (k : Int) (q : Nat) : List α := (List.range q).map (mk k) ++ l.drop q
theorem markA_zero (mk : Int → Nat → α) (l : List α) (k : Int) : markA mk l k 0 = l := by simp [markA]
theorem markA_all (mk : Int → Nat → α) (l : List α) (k : Int) : markA mk l k l.length = (List.range l.length).map (mk k) := by simp [markA]
theorem length_markA (mk : Int → Nat → α) (l : List α) (k : Int) {q : Nat} (h : q ≤ l.length) : (markA mk l k q).length = l.length := by simp [markA]; omega
theorem row_cell (E : Enc α) {L : List α} {q j : Nat} (h : q < L.length) (hj : j < E.n) : ∃ u, (L.flatMap E.cells)[q * E.n + j]? = some u := by
  rw [getElem?_flatMap E L q j L[q] (List.getElem?_eq_getElem h) hj]
  exact ⟨_, List.getElem?_eq_getElem (by rw [E.len]; exact hj)⟩
theorem setRow_mid : ∀ (cs Y X Z : List Value), Y.length = cs.length → setRow (X ++ (Y ++ Z)) X.length cs = X ++ (cs ++ Z)
  | [], [], _, _, _ => rfl
  | c :: cs, y :: Y, X, Z, h => by
    have h2 : Y.length = cs.length := by simpa using h
    have e : (X ++ (y :: Y ++ Z)).set X.length c = (X ++ [c]) ++ (Y ++ Z) := by simp
    have e2 : X.length + 1 = (X ++ [c]).length := by simp
    rw [setRow, e, e2, setRow_mid cs Y (X ++ [c]) Z h2]
    simp
theorem set_part (E : Enc α) (A B : List α) (a a' : α) : setRow ((A ++ a :: B).flatMap E.cells) (A.length * E.n) (E.cells a') = (A ++ a' :: B).flatMap E.cells := by
  rw [List.flatMap_append, List.flatMap_cons, List.flatMap_append, List.flatMap_cons, ← length_flatMap E A]
  exact setRow_mid _ _ _ _ (by rw [E.len, E.len])
theorem markA_succ (E : Enc α) (mk : Int → Nat → α) (l : List α) (k : Int) {q : Nat} (h : q < l.length) :
    setRow ((markA mk l k q).flatMap E.cells) (q * E.n) (E.cells (mk k q)) = (markA mk l k (q + 1)).flatMap E.cells := by
  unfold markA
  rw [List.drop_eq_getElem_cons h]
  have e : q = ((List.range q).map (mk k)).length := by simp
  have := set_part E ((List.range q).map (mk k)) (l.drop (q + 1)) l[q] (mk k q)
  rw [← e] at this
  rw [this, List.range_succ, List.map_append, List.append_assoc]
  rfl
theorem mapRange_at {f : Nat → α} {n i : Nat} (h : i < ((List.range n).map f).length) : ((List.range n).map f)[i] = f i := by simp
theorem wsets_grown {g : Nat} {w0 : World} : ∀ (cs : List Value) (i : Nat) (w : World), w0.grownBy w (some g) → w0.grownBy (wsets w g i cs) (some g)
  | [], _, _, h => h
  | c :: cs, i, w, h => wsets_grown cs (i + 1) _ ⟨h.os, h.tape, h.output, by simp [World.setCell]; exact h.size, fun j hj hne => (Below.heap_setCell _ _ _ _ (by intro e; exact hne (by rw [e]))).trans (h.block j hj hne)⟩
theorem wsets_size {g : Nat} : ∀ (cs : List Value) (i : Nat) (w : World), (wsets w g i cs).heap.size = w.heap.size
  | [], _, _ => rfl
  | c :: cs, i, w => by rw [wsets, wsets_size cs (i + 1)]; simp [World.setCell]
end
end Go.Proofs.Ytmjafclpeknpcaa
