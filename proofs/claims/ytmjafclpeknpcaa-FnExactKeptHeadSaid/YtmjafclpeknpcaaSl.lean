/- Slices whose elements are rows of n cells: read, owned, made element by element. -/
import Derived.Test.YtmjafclpeknpcaaMem
namespace Go.Proofs.Ytmjafclpeknpcaa
open Go.ChangeShapes Go.WideShapes Go.ChangeAt Go.RowKit Go.Deep

/-- how an element lies in memory -/
structure Enc (α : Type) where
  n : Nat
  cells : α → List Value
  len : ∀ a, (cells a).length = n
  pos : 0 < n
  ok : α → Prop

section
variable {α : Type} (E : Enc α)

/-- the slice at ao reads, in world w, as l -/
def ReadA (w : World) (ao : Option Addr) (l : List α) : Prop :=
  (∀ a ∈ l, E.ok a) ∧ l.length ≤ 9223372036854775807 ∧
  (l = [] ∨ ∃ b off, ao = some ⟨b, off, none⟩ ∧ b < w.heap.size ∧ ∀ i a, l[i]? = some a → ∀ j c, (E.cells a)[j]? = some c → w.cell? ⟨b, off + i * E.n + j, none⟩ = some c)

/-- a slice that the call has made: a row of its own, from block lo on -/
def OwnA (w : World) (lo ty : Nat) (v : Value) (l : List α) : Prop :=
  (∀ a ∈ l, E.ok a) ∧ l.length ≤ 9223372036854775807 ∧ w.ownsRow lo ty E.n v l.length (l.flatMap E.cells)

/-- what a function hands back that makes a slice and touches nothing that was there -/
def RetA (w : World) (ty : Nat) (l : List α) (e : Ending) (w' : World) : Prop :=
  ∃ (ao : Option Addr) (cap : Nat), e = .returned (.slice ao l.length cap) ∧ OwnA E w' w.heap.size ty (.slice ao l.length cap) l ∧ Below w.heap.size w w'

variable {E}

theorem ReadA.below {w w' : World} {ao : Option Addr} {l : List α} (h : ReadA E w ao l) (hb : Below w.heap.size w w') : ReadA E w' ao l := by
  obtain ⟨h1, h2, h3⟩ := h
  refine ⟨h1, h2, ?_⟩
  rcases h3 with h3 | ⟨b, off, rfl, hlt, hc⟩
  · exact .inl h3
  · exact .inr ⟨b, off, rfl, Nat.lt_of_lt_of_le hlt hb.size, fun i a ha j c hj => (hb.cell (p := ⟨b, off + i * E.n + j, none⟩) hlt).trans (hc i a ha j c hj)⟩

theorem ReadA.at {w : World} {ao : Option Addr} {l : List α} (h : ReadA E w ao l) {k : Nat} (hk : k < l.length) :
    ∃ b off, ao = some ⟨b, off, none⟩ ∧ b < w.heap.size ∧ ∀ i (hi : i < l.length), E.ok l[i] ∧ ∀ j c, (E.cells l[i])[j]? = some c → w.cell? ⟨b, off + i * E.n + j, none⟩ = some c := by
  obtain ⟨h1, h2, h3⟩ := h
  rcases h3 with rfl | ⟨b, off, rfl, hlt, hc⟩
  · simp at hk
  · exact ⟨b, off, rfl, hlt, fun i hi => ⟨h1 _ (List.getElem_mem hi), hc i _ (List.getElem?_eq_getElem hi)⟩⟩

theorem length_flatMap (E : Enc α) (l : List α) : (l.flatMap E.cells).length = l.length * E.n := by
  induction l with
  | nil => simp
  | cons a l ih => simp [ih, E.len, Nat.succ_mul]; omega

theorem getElem?_flatMap (E : Enc α) : ∀ (l : List α) (i j : Nat) (a : α), l[i]? = some a → j < E.n → (l.flatMap E.cells)[i * E.n + j]? = (E.cells a)[j]?
  | [], _, _, _, h, _ => by simp at h
  | b :: l, 0, j, a, h, hj => by
    simp only [List.getElem?_cons_zero, Option.some.injEq] at h
    subst h
    simp only [Nat.zero_mul, Nat.zero_add, List.flatMap_cons]
    rw [List.getElem?_append_left (by rw [E.len]; exact hj)]
  | b :: l, i + 1, j, a, h, hj => by
    simp only [List.getElem?_cons_succ] at h
    rw [List.flatMap_cons, List.getElem?_append_right (by rw [E.len, Nat.succ_mul]; omega), E.len, show (i + 1) * E.n + j - E.n = i * E.n + j by rw [Nat.succ_mul]; omega]
    exact getElem?_flatMap E l i j a h hj

theorem OwnA.read {w : World} {lo ty cap : Nat} {ao : Option Addr} {l : List α} (h : OwnA E w lo ty (.slice ao l.length cap) l) : ReadA E w ao l := by
  obtain ⟨h1, h2, h3⟩ := h
  refine ⟨h1, h2, ?_⟩
  have hlt := h3.lt
  rcases h3.2 with ⟨h4, h5⟩ | ⟨g, cap', cur, h4, hb, hg, hnc, hcm, hcs, htake⟩
  · exact .inl (List.eq_nil_of_length_eq_zero h5)
  · simp only [Value.slice.injEq] at h4
    obtain ⟨rfl, _, rfl⟩ := h4
    refine .inr ⟨g, 0, rfl, (hlt g rfl).2, fun i a ha j c hj => ?_⟩
    have hi : i < l.length := (List.getElem?_eq_some_iff.1 ha).1
    have hjn : j < E.n := by have := (List.getElem?_eq_some_iff.1 hj).1; rwa [E.len] at this
    have hb : i * E.n + j < l.length * E.n := Nat.lt_of_lt_of_le (by omega) (show i * E.n + E.n ≤ l.length * E.n by rw [← Nat.succ_mul]; exact Nat.mul_le_mul_right _ hi)
    have := h3.cellAt (i * E.n + j) hb
    rw [Nat.zero_add, this, getElem?_flatMap E l i j a ha hjn, hj]

/-- what is owned stays owned where nothing that was there is written -/
theorem grown_of_below {w w' : World} (h : Below w.heap.size w w') : w.grownBy w' none := ⟨h.os, h.tape, h.output, h.size, fun k hk _ => h.block k hk⟩
theorem owns_below {w w' : World} {lo ty n : Nat} {v : Value} {m : Nat} {xs : List Value} (h : w.ownsRow lo ty n v m xs) (hb : Below w.heap.size w w') : w'.ownsRow lo ty n v m xs :=
  h.kept (grown_of_below hb) (by cases hv : v.ownBlock <;> simp)
theorem OwnA.below {w w' : World} {lo ty : Nat} {v : Value} {l : List α} (h : OwnA E w lo ty v l) (hb : Below w.heap.size w w') : OwnA E w' lo ty v l := ⟨h.1, h.2.1, owns_below h.2.2 hb⟩

theorem OwnA.set {w : World} {lo ty : Nat} {v : Value} {l : List α} {a : Addr} {u : Value} (ha : a.block < lo) (h : OwnA E w lo ty v l) : OwnA E (w.setCell a u) lo ty v l := ⟨h.1, h.2.1, ownsRow_setCell_below h.2.2 ha u⟩
theorem OwnA.weak {w : World} {lo lo' ty : Nat} {v : Value} {l : List α} (hl : lo' ≤ lo) (h : OwnA E w lo ty v l) : OwnA E w lo' ty v l := by
  refine ⟨h.1, h.2.1, h.2.2.1, ?_⟩
  rcases h.2.2.2 with h4 | ⟨g, cap', cur, h4, hb, hg⟩
  · exact .inl h4
  · exact .inr ⟨g, cap', cur, h4, Nat.le_trans hl hb, hg⟩

/-- a slice that is read as an argument: from its elements -/
theorem open_enc (E : Enc α) {w : World} {base : Nat} {a : Addr} {len cap : Nat} (hl : len ≤ cap) (hm : cap ≤ maxLen)
    (hel : ∀ i, i < len → ∃ d : α, E.ok d ∧ w.cells? base (a.add (i * E.n)) E.n = some (E.cells d)) :
    ∃ (ao : Option Addr) (cap' : Nat) (l : List α), Value.slice (some a) len cap = .slice ao l.length cap' ∧ ReadA E w ao l := by
  unfold maxLen at hm
  have hch : ∃ l : List α, l.length = len ∧ ∀ i d, l[i]? = some d → E.ok d ∧ w.cells? base (a.add (i * E.n)) E.n = some (E.cells d) := by
    clear hl
    induction len with
    | zero => exact ⟨[], rfl, by simp⟩
    | succ n ih =>
      obtain ⟨l, h1, h2⟩ := ih (fun i hi => hel i (by omega))
      obtain ⟨d, h3, h4⟩ := hel n (by omega)
      refine ⟨l ++ [d], by simp [h1], fun i q hq => ?_⟩
      by_cases hi : i < l.length
      · rw [List.getElem?_append_left hi] at hq; exact h2 i q hq
      · rw [List.getElem?_append_right (by omega)] at hq
        have : i - l.length = 0 := by
          have := (List.getElem?_eq_some_iff.1 hq).1; simp at this; omega
        rw [this] at hq
        simp at hq
        subst hq
        have : i = n := by omega
        subst this
        exact ⟨h3, h4⟩
  obtain ⟨l, rfl, hall⟩ := hch
  refine ⟨some a, cap, l, rfl, fun d hd => ?_, by omega, ?_⟩
  · obtain ⟨i, hi⟩ := List.getElem?_of_mem hd
    exact (hall i d hi).1
  · cases l with
    | nil => exact .inl rfl
    | cons d0 r =>
      right
      obtain ⟨b, off, spot⟩ := a
      have hn := E.pos
      have key : ∀ i d, (d0 :: r)[i]? = some d → ∀ j c, (E.cells d)[j]? = some c → w.cell? ((Addr.mk b off spot).add (i * E.n) |>.add j) = some c := fun i d hd j c hj => by
        obtain ⟨_, h2, h3⟩ := World.cells?_some (hall i d hd).2
        have hjn : j < E.n := by have := (List.getElem?_eq_some_iff.1 hj).1; rwa [E.len] at this
        rw [h3 j hjn, hj]
      have h0 : ∃ c, (E.cells d0)[0]? = some c := ⟨_, List.getElem?_eq_getElem (by rw [E.len]; exact hn)⟩
      obtain ⟨c0, hc0⟩ := h0
      have hk0 := key 0 d0 rfl 0 c0 hc0
      have hspot : spot = none := by simpa [Addr.add] using World.cell?_spot hk0
      subst hspot
      refine ⟨b, off, rfl, by have := World.block_lt_of_cell? w _ hk0; simpa [Addr.add] using this, fun i d hd j c hj => ?_⟩
      have := key i d hd j c hj
      rwa [Addr.add_lit, Addr.add_lit] at this

/-! element by element -/
def setRow : List Value → Nat → List Value → List Value
  | xs, _, [] => xs
  | xs, i, c :: cs => setRow (xs.set i c) (i + 1) cs
def wsets (w : World) (g : Nat) : Nat → List Value → World
  | _, [] => w
  | i, c :: cs => wsets (w.setCell ⟨g, i, none⟩ c) g (i + 1) cs
theorem wsets_owns {lo ty n g cap m : Nat} : ∀ (cs : List Value) (i : Nat) (xs : List Value) (w : World), w.ownsRow lo ty n (.slice (some ⟨g, 0, none⟩) m cap) m xs →
    (wsets w g i cs).ownsRow lo ty n (.slice (some ⟨g, 0, none⟩) m cap) m (setRow xs i cs)
  | [], _, _, _, h => h
  | c :: cs, i, _, _, h => wsets_owns cs (i + 1) _ _ (h.stored i c).1
theorem wsets_below {lo g : Nat} {w0 : World} (hg : lo ≤ g) : ∀ (cs : List Value) (i : Nat) (w : World), Below lo w0 w → Below lo w0 (wsets w g i cs)
  | [], _, _, h => h
  | c :: cs, i, _, h => wsets_below hg cs (i + 1) _ (h.setCell hg c)
theorem length_setRow : ∀ (cs : List Value) (i : Nat) (xs : List Value), (setRow xs i cs).length = xs.length
  | [], _, _ => rfl
  | c :: cs, i, xs => by rw [setRow, length_setRow cs]; simp
theorem getElem?_setRow : ∀ (cs : List Value) (i : Nat) (xs : List Value) (j : Nat), i + cs.length ≤ xs.length → (setRow xs i cs)[j]? = if i ≤ j ∧ j < i + cs.length then cs[j - i]? else xs[j]?
  | [], i, xs, j, _ => by simp [setRow]; omega
  | c :: cs, i, xs, j, h => by
    simp only [List.length_cons] at h ⊢
    rw [setRow, getElem?_setRow cs (i + 1) (xs.set i c) j (by simp; omega)]
    by_cases h1 : i = j
    · subst h1
      rw [if_neg (by omega), if_pos (by omega), List.getElem?_set_self (by omega), Nat.sub_self]
      rfl
    · by_cases h2 : i + 1 ≤ j ∧ j < i + 1 + cs.length
      · rw [if_pos h2, if_pos (by omega), show j - i = (j - (i + 1)) + 1 by omega, List.getElem?_cons_succ]
      · rw [if_neg h2, if_neg (by omega), List.getElem?_set_ne h1]

/-- a row of which the first k elements are set -/
def PreA (E : Enc α) (l : List α) (k : Nat) (xs : List Value) : Prop := xs.length = l.length * E.n ∧ ∀ j, j < k * E.n → xs[j]? = (l.flatMap E.cells)[j]?
theorem PreA.zero {l : List α} {xs : List Value} (h : xs.length = l.length * E.n) : PreA E l 0 xs := ⟨h, fun j hj => by simp at hj⟩
theorem PreA.all {l : List α} {xs : List Value} (h : PreA E l l.length xs) : xs = l.flatMap E.cells := by
  apply List.ext_getElem?
  intro j
  by_cases hj : j < l.length * E.n
  · exact h.2 j hj
  · rw [List.getElem?_eq_none (by rw [h.1]; omega), List.getElem?_eq_none (by rw [length_flatMap]; omega)]
theorem PreA.room {l : List α} {k : Nat} (hk : k < l.length) : k * E.n + E.n ≤ l.length * E.n := by rw [← Nat.succ_mul]; exact Nat.mul_le_mul_right _ hk
theorem PreA.step {l : List α} {k : Nat} {xs : List Value} (h : PreA E l k xs) (hk : k < l.length) : PreA E l (k + 1) (setRow xs (k * E.n) (E.cells l[k])) := by
  have hr := PreA.room (E := E) hk
  have h1 := h.1
  refine ⟨by rw [length_setRow]; exact h1, fun j hj => ?_⟩
  rw [getElem?_setRow _ _ _ _ (by rw [E.len]; omega), E.len]
  rw [Nat.succ_mul] at hj
  by_cases h3 : k * E.n ≤ j
  · rw [if_pos ⟨h3, hj⟩]
    have := getElem?_flatMap E l k (j - k * E.n) l[k] (List.getElem?_eq_getElem hk) (by omega)
    rw [show k * E.n + (j - k * E.n) = j by omega] at this
    exact this.symm
  · rw [if_neg (by omega)]
    exact h.2 j (by omega)
/-- a cell of the row lies there -/
theorem PreA.cell {l : List α} {k : Nat} {xs : List Value} (h : PreA E l k xs) (hk : k < l.length) {j : Nat} (hj : j < E.n) : ∃ u, xs[k * E.n + j]? = some u := by
  have hr := PreA.room (E := E) hk
  have : k * E.n + j < xs.length := by rw [h.1]; omega
  exact ⟨_, List.getElem?_eq_getElem this⟩
end
end Go.Proofs.Ytmjafclpeknpcaa
