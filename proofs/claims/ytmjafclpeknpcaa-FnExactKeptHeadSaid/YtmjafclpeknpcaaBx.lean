/- A box of the law's own: its cells stay as they are. -/
import Derived.Test.YtmjafclpeknpcaaMarks
namespace Go.Proofs.Ytmjafclpeknpcaa
open Go.RowKit
def Bx (w : World) (b : Nat) (L : List Value) : Prop := b < w.heap.size ∧ ∀ o, w.cell? ⟨b, o, none⟩ = L[o]?
theorem Bx.new (w : World) (L : List Value) (ty : TypeId) : Bx (w.alloc (.cells L.toArray ty)) w.heap.size L := by
  refine ⟨by simp, fun o => ?_⟩
  rw [World.cell?_alloc_new]
  simp
theorem Bx.alloc {w : World} {b : Nat} {L : List Value} (h : Bx w b L) (o : Obj) : Bx (w.alloc o) b L := by
  refine ⟨by simp; have := h.1; omega, fun i => (World.cell?_alloc_lt _ _ _ h.1).trans (h.2 i)⟩
theorem Bx.below {w w' : World} {b : Nat} {L : List Value} (h : Bx w b L) (hb : Below w.heap.size w w') : Bx w' b L :=
  ⟨Nat.lt_of_lt_of_le h.1 hb.size, fun i => (hb.cell (p := ⟨b, i, none⟩) h.1).trans (h.2 i)⟩
theorem Bx.drew {w : World} {b : Nat} {L : List Value} (h : Bx w b L) : Bx w.drew b L := h

theorem Bx.grown {w w' : World} {b : Nat} {L : List Value} {row : Option Nat} (h : Bx w b L) (hg : w.grownBy w' row) (hne : row ≠ some b) : Bx w' b L := by
  have hk := hg.block b h.1 (fun e => hne e.symm)
  refine ⟨Nat.lt_of_lt_of_le h.1 hg.size, fun o => ?_⟩
  rw [← h.2 o]
  unfold World.cell?
  rw [hk]
def Fx (w : World) (b : Nat) : Prop := b < w.heap.size ∧ ∀ o, w.frozen? ⟨b, o, none⟩ = false
theorem Fx.new (w : World) (L : List Value) (ty : TypeId) : Fx (w.alloc (.cells L.toArray ty)) w.heap.size := by
  refine ⟨by simp, fun o => ?_⟩
  simp
theorem Fx.alloc {w : World} {b : Nat} (h : Fx w b) (o : Obj) : Fx (w.alloc o) b := by
  refine ⟨by simp; have := h.1; omega, fun i => (World.frozen?_alloc_past _ _ _ h.1).trans (h.2 i)⟩
theorem Fx.below {w w' : World} {b : Nat} (h : Fx w b) (hb : Below w.heap.size w w') : Fx w' b :=
  ⟨Nat.lt_of_lt_of_le h.1 hb.size, fun i => (hb.frozen (p := ⟨b, i, none⟩) h.1).trans (h.2 i)⟩
theorem Fx.drew {w : World} {b : Nat} (h : Fx w b) : Fx w.drew b := h
theorem IntsO.lower {w : World} {lo lo' e : Nat} {v : Value} {l : List Int} (h : IntsO w lo e v l) (hl : lo' ≤ lo) : IntsO w lo' e v l := by
  refine ⟨h.1, h.2.1, h.2.2.1, ?_⟩
  rcases h.2.2.2 with h4 | ⟨g, cap', cur, h4, hb, hr⟩
  · exact .inl h4
  · exact .inr ⟨g, cap', cur, h4, Nat.le_trans hl hb, hr⟩
end Go.Proofs.Ytmjafclpeknpcaa
