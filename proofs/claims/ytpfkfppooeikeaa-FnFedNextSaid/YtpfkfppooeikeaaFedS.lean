/- Walks of functions of the program, printed by a program of the prover. -/
import Derived.Test.YtpfkfppooeikeaaFedP
import Derived.Test.YtpfkfppooeikeaaFeedB
import Derived.WalkKit
import Derived.WalkSpells
import Derived.Deep.QuietTactic
import Derived.BigQuiet
import Derived.Deep.Light
import Derived.Lib.Hide
import Derived.Deep.RegionHeld3
namespace Go.Proofs.Ytpfkfppooeikeaa
open Go.ChangeShapes Go.WideShapes Go.ChangeAt Go.RowKit Go.Deep
set_option maxHeartbeats 800000
set_option maxRecDepth 100000

def C3 (W : World) (g : Nat) (a b c : Value) : Prop := g < W.heap.size ∧ W.cell? ⟨g, 0, none⟩ = some a ∧ W.cell? ⟨g, 1, none⟩ = some b ∧ W.cell? ⟨g, 2, none⟩ = some c
theorem C3.below {W W' : World} {g : Nat} {a b c : Value} (h : C3 W g a b c) (hb : Below W.heap.size W W') : C3 W' g a b c :=
  ⟨Nat.lt_of_lt_of_le h.1 hb.size, (hb.cell (p := ⟨g, 0, none⟩) h.1).trans h.2.1, (hb.cell (p := ⟨g, 1, none⟩) h.1).trans h.2.2.1, (hb.cell (p := ⟨g, 2, none⟩) h.1).trans h.2.2.2⟩
theorem C3.set {W : World} {g k o : Nat} {a b c : Value} (h : C3 W g a b c) (v : Value) (hk : k ≠ g) : C3 (W.setCell ⟨k, o, none⟩ v) g a b c :=
  ⟨by simp [World.setCell]; exact h.1, (World.cell?_setCell_other _ _ _ _ (fun e => hk (Addr.mk.inj e).1)).trans h.2.1, (World.cell?_setCell_other _ _ _ _ (fun e => hk (Addr.mk.inj e).1)).trans h.2.2.1, (World.cell?_setCell_other _ _ _ _ (fun e => hk (Addr.mk.inj e).1)).trans h.2.2.2⟩
/-- what holds while the last list is made: the boxes of the law -/
def FedS (w0 : World) (g4 g : Nat) (bs la x y z sl : Value) (b off : Nat) (D : List (Int × Int × Int × Int × Int × Int × Int × Int × Int)) (W : World) : Prop :=
  (Below w0.heap.size w0 W ∧ ReadA entryE W (some ⟨b, off, none⟩) D) ∧ (C3 W g4 bs la sl ∧ C3 W g bs x sl ∧ C3 W (g + 1) y z sl) ∧ (g + 2 < W.heap.size ∧ W.cell? ⟨g + 2, 0, none⟩ = some bs ∧ W.cell? ⟨g + 2, 1, none⟩ = some la ∧ (∃ v, W.cell? ⟨g + 2, 2, none⟩ = some v) ∧ W.frozen? ⟨g + 2, 2, none⟩ = false)
theorem FedS.below {w0 W W' : World} {g4 g b off : Nat} {bs la x y z sl : Value} {D : List (Int × Int × Int × Int × Int × Int × Int × Int × Int)} (h : FedS w0 g4 g bs la x y z sl b off D W) (hb : Below W.heap.size W W') : FedS w0 g4 g bs la x y z sl b off D W' := by
  obtain ⟨⟨h1, h2⟩, ⟨h3, h4, h5⟩, h6, h7, h8, ⟨v, h9⟩, h10⟩ := h
  exact ⟨⟨bl_step hb h1.size h1, h2.below hb⟩, ⟨h3.below hb, h4.below hb, h5.below hb⟩, Nat.lt_of_lt_of_le h6 hb.size, (hb.cell (p := ⟨g + 2, 0, none⟩) h6).trans h7, (hb.cell (p := ⟨g + 2, 1, none⟩) h6).trans h8, ⟨v, (hb.cell (p := ⟨g + 2, 2, none⟩) h6).trans h9⟩, (hb.frozen (p := ⟨g + 2, 2, none⟩) h6).trans h10⟩
theorem readA_set {w : World} {b off k o : Nat} {D : List (Int × Int × Int × Int × Int × Int × Int × Int × Int)} (h : ReadA entryE w (some ⟨b, off, none⟩) D) (v : Value) (hk : k ≠ b) : ReadA entryE (w.setCell ⟨k, o, none⟩ v) (some ⟨b, off, none⟩) D := by
  obtain ⟨h1, h2, h3⟩ := h
  refine ⟨h1, h2, ?_⟩
  rcases h3 with h3 | ⟨b', off', e, hlt, hc⟩
  · exact .inl h3
  · simp only [Option.some.injEq, Addr.mk.injEq] at e
    obtain ⟨rfl, rfl, _⟩ := e
    exact .inr ⟨b, off, rfl, by simp [World.setCell]; exact hlt, fun i a ha j c hj => (World.cell?_setCell_other _ _ _ _ (fun e => hk (Addr.mk.inj e).1)).trans (hc i a ha j c hj)⟩
theorem FedS.set {w0 W : World} {g4 g b off : Nat} {bs la x y z sl : Value} {D : List (Int × Int × Int × Int × Int × Int × Int × Int × Int)} (h : FedS w0 g4 g bs la x y z sl b off D W) (v : Value) (h4 : g4 < g) (hb : b < g) (h0 : w0.heap.size ≤ g) :
    FedS w0 g4 g bs la x y z sl b off D (W.setCell ⟨g + 2, 2, none⟩ v) ∧ C3 (W.setCell ⟨g + 2, 2, none⟩ v) (g + 2) bs la v := by
  obtain ⟨⟨h1, h2⟩, ⟨h3, h4', h5⟩, h6, h7, h8, ⟨u, h9⟩, h10⟩ := h
  have e0 : (W.setCell ⟨g + 2, 2, none⟩ v).cell? ⟨g + 2, 0, none⟩ = some bs := (World.cell?_setCell_other _ _ _ _ (fun e => by simp at e)).trans h7
  have e1 : (W.setCell ⟨g + 2, 2, none⟩ v).cell? ⟨g + 2, 1, none⟩ = some la := (World.cell?_setCell_other _ _ _ _ (fun e => by simp at e)).trans h8
  have e2 : (W.setCell ⟨g + 2, 2, none⟩ v).cell? ⟨g + 2, 2, none⟩ = some v := World.cell?_setCell_same _ _ _ h9
  have e3 : g + 2 < (W.setCell ⟨g + 2, 2, none⟩ v).heap.size := by simp [World.setCell]; exact h6
  exact ⟨⟨⟨h1.setCell (p := ⟨g + 2, 2, none⟩) (Nat.le_trans h0 (Nat.le_add_right _ _)) v, readA_set h2 v (by omega)⟩, ⟨h3.set v (by omega), h4'.set v (by omega), h5.set v (by omega)⟩, e3, e0, e1, ⟨v, e2⟩, (World.frozen?_setCell _ _ _ _).trans h10⟩, e3, e0, e1, e2⟩
theorem restS_world {P : Program} {ops : Array Oper} {Q : Exit → Act → World → Prop} {S : World → Prop} {fuel : Nat} {listed : Array Bool} {a : Act} {w : World} (C : World → Prop) (hC : C w) (h : ∀ w', C w' → RestS P ops Q S fuel listed a w') : RestS P ops Q S fuel listed a w := h w hC

end Go.Proofs.Ytpfkfppooeikeaa
