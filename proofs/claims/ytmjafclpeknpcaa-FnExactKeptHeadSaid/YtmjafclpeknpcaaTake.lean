/- A region that draws its order, in which only calls touch memory and each call comes alone: taken operation by operation. -/
import Derived.Test.YtmjafclpeknpcaaMem
import Derived.Deep.RegionHeld3
namespace Go.Proofs.Ytmjafclpeknpcaa
open Go.RowKit
section
variable {P : Program} {ops : Array Oper} {Q : Exit → Act → World → Prop}
/-- what is left of a region when some operations have come up -/
def Rest (P : Program) (ops : Array Oper) (Q : Exit → Act → World → Prop) (fuel : Nat) (listed : Array Bool) (a : Act) (w : World) : Prop :=
  wpAnyH P .any ops Q (fun _ => True) fuel listed a w
theorem rest_begin {id : Nat} {a : Act} {w : World} (hm : P.follows .mixedOrders = true) (h : Rest P ops Q ops.size (Array.replicate ops.size false) a w.drew) : (Code.region id ops true).wp P Q a w :=
  wp_region_held hm h
theorem rest_take (i : Nat) {d : Tmp} {op : Op} {ty : TypeId} {pos : String} {af : Array Edge} {g : Option (Nat × Bool)} {fuel : Nat} {listed : Array Bool} {a : Act} {w : World} {v : Value}
    (hi : ops[i]? = some ⟨some d, op, ty, pos, af, g⟩) (hs : Region.noSelect ops = true) (hf : Region.free .any ops listed i = true) (hr : (Region.ready .any ops listed).contains i = true)
    (hQ : ∀ c a w, Q (.panic c) (a.put (some d) v) w → Q (.panic c) a w) (hw : Region.wanted ⟨some d, op, ty, pos, af, g⟩ (yielded ops a.tmps) = true)
    (hy : ∀ w', (execOp a.eval ⟨some d, op, ty, pos, af, g⟩).run P w' = .ok (.value v) w')
    (h : Rest P ops Q fuel (listed.setIfInBounds i true) (a.put (some d) v) w) : Rest P ops Q (fuel + 1) listed a w :=
  wpAnyH_take hi hs hf hr hQ (.inl ⟨hw, fun w _ => hy w⟩) trivial h
theorem rest_skip (i : Nat) {d : Tmp} {op : Op} {ty : TypeId} {pos : String} {af : Array Edge} {g : Option (Nat × Bool)} {fuel : Nat} {listed : Array Bool} {a : Act} {w : World}
    (hi : ops[i]? = some ⟨some d, op, ty, pos, af, g⟩) (hs : Region.noSelect ops = true) (hf : Region.free .any ops listed i = true) (hr : (Region.ready .any ops listed).contains i = true)
    (hQ : ∀ c a w, Q (.panic c) (a.put (some d) undef) w → Q (.panic c) a w) (hw : Region.wanted ⟨some d, op, ty, pos, af, g⟩ (yielded ops a.tmps) = false)
    (h : Rest P ops Q fuel (listed.setIfInBounds i true) (a.put (some d) undef) w) : Rest P ops Q (fuel + 1) listed a w :=
  wpAnyH_take hi hs hf hr hQ (.inr ⟨hw, rfl⟩) trivial h
theorem rest_alone (i : Nat) {o : Oper} {fuel : Nat} {listed : Array Bool} {a : Act} {w : World}
    (hi : ops[i]? = some o) (hr : Region.ready .any ops listed = [i]) (hw : Region.wanted o (yielded ops a.tmps) = true)
    (h : ∀ K' : Act → World → Prop, Shut (∀ a w, Rest P ops Q fuel (listed.setIfInBounds i true) a w → K' a w) → Oper.wp P o a w K' Q) : Rest P ops Q (fuel + 1) listed a w :=
  wpAnyH_ready hr (by simp) (AllReadyH.cons hi (fun K hK => by rw [if_pos hw]; exact h K (fun a w hr => hK a w trivial fun _ => hr)) AllReadyH.nil)
theorem rest_done {fuel : Nat} {listed : Array Bool} {a : Act} {w : World} (hr : Region.ready .any ops listed = []) (h : Q .normal a w) : Rest P ops Q fuel listed a w :=
  wpAnyH_done hr h _
end
end Go.Proofs.Ytmjafclpeknpcaa
