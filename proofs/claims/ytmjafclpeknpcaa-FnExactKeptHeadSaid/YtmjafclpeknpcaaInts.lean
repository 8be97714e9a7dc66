/- Slices of int64 that are only read. -/
import Derived.Test.YtmjafclpeknpcaaMem
namespace Go.Proofs.Ytmjafclpeknpcaa
open Go.ChangeShapes Go.WideShapes Go.ChangeAt Go.RowKit Go.Deep

/-- the slice at ao reads, in world w, as l -/
def IntsR (w : World) (ao : Option Addr) (l : List Int) : Prop :=
  (∀ x ∈ l, inI64 x) ∧ l.length ≤ 9223372036854775807 ∧
  (l = [] ∨ ∃ b off, ao = some ⟨b, off, none⟩ ∧ b < w.heap.size ∧ ∀ i x, l[i]? = some x → w.cell? ⟨b, off + i, none⟩ = some (.int .i64 x))

theorem IntsR.below {w w' : World} {ao : Option Addr} {l : List Int} (h : IntsR w ao l) (hb : Below w.heap.size w w') : IntsR w' ao l := by
  obtain ⟨h1, h2, h3⟩ := h
  refine ⟨h1, h2, ?_⟩
  rcases h3 with h3 | ⟨b, off, rfl, hlt, hc⟩
  · exact .inl h3
  · exact .inr ⟨b, off, rfl, Nat.lt_of_lt_of_le hlt hb.size, fun i x hx => (hb.cell (p := ⟨b, off + i, none⟩) hlt).trans (hc i x hx)⟩

theorem IntsR.at {w : World} {ao : Option Addr} {l : List Int} (h : IntsR w ao l) {k : Nat} (hk : k < l.length) :
    ∃ b off, ao = some ⟨b, off, none⟩ ∧ b < w.heap.size ∧ inI64 l[k] ∧ ∀ i (hi : i < l.length), w.cell? ⟨b, off + i, none⟩ = some (.int .i64 l[i]) := by
  obtain ⟨h1, h2, h3⟩ := h
  rcases h3 with rfl | ⟨b, off, rfl, hlt, hc⟩
  · simp at hk
  · exact ⟨b, off, rfl, hlt, h1 _ (List.getElem_mem hk), fun i hi => hc i _ (List.getElem?_eq_getElem hi)⟩

/-- a slice of int64 that the call has made: a row of its own, from block lo on -/
def IntsO (w : World) (lo e : Nat) (v : Value) (l : List Int) : Prop := (∀ x ∈ l, inI64 x) ∧ l.length ≤ 9223372036854775807 ∧ w.ownsRow lo e 1 v l.length (l.map (Value.int .i64))

/-- what a function hands back that makes a slice of int64 and touches nothing that was there -/
def RetI (w : World) (ty : Nat) (l : List Int) (e : Ending) (w' : World) : Prop :=
  ∃ (ao : Option Addr) (cap : Nat), e = .returned (.slice ao l.length cap) ∧ IntsO w' w.heap.size ty (.slice ao l.length cap) l ∧ Below w.heap.size w w'

theorem IntsO.read {w : World} {lo e cap : Nat} {ao : Option Addr} {l : List Int} (h : IntsO w lo e (.slice ao l.length cap) l) : IntsR w ao l := by
  obtain ⟨h1, h2, h3⟩ := h
  refine ⟨h1, h2, ?_⟩
  have hlt := h3.lt
  rcases h3.2 with ⟨h4, h5⟩ | ⟨g, cap', cur, h4, hb, hg, hnc, hcm, hcs, htake⟩
  · exact .inl (List.eq_nil_of_length_eq_zero h5)
  · simp only [Value.slice.injEq] at h4
    obtain ⟨rfl, _, rfl⟩ := h4
    refine .inr ⟨g, 0, rfl, (hlt g rfl).2, fun i x hx => ?_⟩
    have hi : i < l.length := (List.getElem?_eq_some_iff.1 hx).1
    have := h3.cellAt i (by omega)
    rw [Nat.zero_add, this]
    simp [hx]

theorem IntsO.made {w : World} {lo e g cap : Nat} {l : List Int} (h1 : ∀ x ∈ l, inI64 x) (h2 : l.length ≤ 9223372036854775807) (h : w.ownsRow lo e 1 (.slice (some ⟨g, 0, none⟩) l.length cap) l.length (l.map (Value.int .i64))) :
    IntsO w lo e (.slice (some ⟨g, 0, none⟩) l.length cap) l := ⟨h1, h2, h⟩

/-- a row of which the first k numbers are set -/
def partRow (l : List Int) (k : Nat) : List Value := (l.take k).map (Value.int .i64) ++ List.replicate (l.length - k) (Value.int .i64 0)
theorem partRow_zero (l : List Int) : partRow l 0 = List.replicate l.length (Value.int .i64 0) := by simp [partRow]
theorem partRow_all (l : List Int) : partRow l l.length = l.map (Value.int .i64) := by simp [partRow]
theorem length_partRow (l : List Int) {k : Nat} (hk : k ≤ l.length) : (partRow l k).length = l.length := by simp [partRow]; omega
theorem partRow_succ (l : List Int) {k : Nat} (hk : k < l.length) : (partRow l k).set k (.int .i64 l[k]) = partRow l (k + 1) := by
  have e : List.replicate (l.length - k) (Value.int .i64 0) = Value.int .i64 0 :: List.replicate (l.length - (k + 1)) (Value.int .i64 0) := by
    rw [← List.replicate_succ]; congr 1; omega
  unfold partRow
  have hl : ((l.take k).map (Value.int .i64)).length = k := by simp; omega
  rw [e, List.set_append_right _ _ (by omega), hl, Nat.sub_self, List.set_cons_zero, List.take_succ_eq_append_getElem hk, List.map_append, List.append_assoc]
  rfl
theorem partRow_at (l : List Int) {k : Nat} (hk : k < l.length) : ∃ u, (partRow l k)[k]? = some u := by
  have : k < (partRow l k).length := by rw [length_partRow l (by omega)]; exact hk
  exact ⟨_, List.getElem?_eq_getElem this⟩

def numOk (x : Int) : Bool := decide (0 ≤ x) && decide (x ≤ 1000000000)
def rowOk (l : List Int) : Bool := decide (l.length ≤ 48) && l.all numOk
theorem rowOk_long {l : List Int} (h : 48 < l.length) : rowOk l = false := by simp [rowOk]; omega
theorem rowOk_bad {l : List Int} {k : Nat} (hk : k < l.length) (h : numOk l[k] = false) : rowOk l = false := by
  simp only [rowOk, Bool.and_eq_false_iff, List.all_eq_false]
  exact .inr ⟨_, List.getElem_mem hk, by simp [h]⟩
theorem rowOk_good {l : List Int} (h : l.length ≤ 48) (h2 : ∀ i (hi : i < l.length), numOk l[i] = true) : rowOk l = true := by
  simp only [rowOk, Bool.and_eq_true, decide_eq_true_eq, List.all_eq_true]
  refine ⟨h, fun x hx => ?_⟩
  obtain ⟨i, hi, rfl⟩ := List.getElem_of_mem hx
  exact h2 i hi

theorem open_intsR {H : Type} {enc : TypeId × Value → H} {P : Program} {W : World} {t e : TypeId} {ao : Option Addr} {len cap : Nat} {d : DataW H} {p : List MemPlace}
    (ht : P.underlying t = some (.slice e)) (he : P.underlying e = some (.int .i64)) (hC : P.cellsOf e = 1) (h : DataW.Trod enc P W 0 (fun _ => true) true t (.slice ao len cap) d p) :
    ∃ l : List Int, len = l.length ∧ IntsR W ao l := by
  obtain ⟨fuel, hf⟩ := h
  rcases open_ints ht he hC hf with ⟨hcs, _⟩ | ⟨x, l, c, zs, hcs, _, hl, hm, hz, _, hcell, hwz⟩
  · simp [Value.cells] at hcs
    obtain ⟨rfl, rfl, rfl⟩ := hcs
    exact ⟨[], rfl, by simp, by simp, .inl rfl⟩
  · simp [Value.cells] at hcs
    obtain ⟨rfl, rfl, rfl⟩ := hcs
    have hzl : zs.length = cap := by simpa using hz
    unfold maxLen at hm
    refine ⟨zs.take len, by simp; omega, fun y hy => inI64_of_wf (hwz y (List.mem_of_mem_take hy)), by simp; omega, ?_⟩
    by_cases h0 : len = 0
    · subst h0; exact .inl (by simp)
    · right
      obtain ⟨b, off, spot⟩ := x
      have hc0 := hcell 0 (by omega)
      have hspot : spot = none := by simpa [Addr.add] using World.cell?_spot hc0
      subst hspot
      refine ⟨b, off, rfl, by have := World.block_lt_of_cell? W _ hc0; simpa [Addr.add] using this, fun i y hy => ?_⟩
      have hi : i < len := by have := (List.getElem?_eq_some_iff.1 hy).1; simp at this; omega
      have h1 := hcell i (by omega)
      rw [List.getElem?_take_of_lt hi] at hy
      have e1 : (Addr.mk b off none).add i = ⟨b, off + i, none⟩ := Addr.add_lit b off i
      rw [e1] at h1
      rw [h1]
      simp [List.getD, hy]

theorem IntsO.below {w w' : World} {lo ty : Nat} {v : Value} {l : List Int} (h : IntsO w lo ty v l) (hb : Below w.heap.size w w') : IntsO w' lo ty v l :=
  ⟨h.1, h.2.1, h.2.2.kept (row := none) ⟨hb.os, hb.tape, hb.output, hb.size, fun k hk _ => hb.block k hk⟩ (by cases hv : v.ownBlock <;> simp)⟩
theorem IntsO.kept {w w' : World} {lo ty B : Nat} {v : Value} {l : List Int} {row : Option Nat} (h : IntsO w lo ty v l) (h1 : ∀ k, v.ownBlock = some k → k < B) (h2 : ∀ k, row = some k → B ≤ k) (hg : w.grownBy w' row) : IntsO w' lo ty v l := by
  refine ⟨h.1, h.2.1, h.2.2.kept hg ?_⟩
  cases hv : v.ownBlock with
  | none => exact .inl rfl
  | some k => exact .inr fun e => by have := h1 k hv; have := h2 k e.symm; omega
end Go.Proofs.Ytmjafclpeknpcaa
