/- A region that draws its order, in which one operation at a time writes or makes memory, and the others read what a condition on the world names. -/
import Derived.Test.YtmjafclpeknpcaaTake
namespace Go.Proofs.Ytmjafclpeknpcaa
open Go.RowKit
section
variable {P : Program} {ops : Array Oper} {Q : Exit → Act → World → Prop} {S : World → Prop}
/-- what is left of a region when some operations have come up; S holds of the world -/
def RestS (P : Program) (ops : Array Oper) (Q : Exit → Act → World → Prop) (S : World → Prop) (fuel : Nat) (listed : Array Bool) (a : Act) (w : World) : Prop :=
  S w → wpAnyH P .any ops Q S fuel listed a w
theorem restS_begin (S : World → Prop) {id : Nat} {a : Act} {w : World} (hm : P.follows .mixedOrders = true) (hS : S w.drew) (h : RestS P ops Q S ops.size (Array.replicate ops.size false) a w.drew) : (Code.region id ops true).wp P Q a w :=
  wp_region_held hm (h hS)
theorem restS_take (i : Nat) {d : Tmp} {op : Op} {ty : TypeId} {pos : String} {af : Array Edge} {g : Option (Nat × Bool)} {fuel : Nat} {listed : Array Bool} {a : Act} {w : World} {v : Value}
    (hi : ops[i]? = some ⟨some d, op, ty, pos, af, g⟩) (hs : Region.noSelect ops = true) (hf : Region.free .any ops listed i = true) (hr : (Region.ready .any ops listed).contains i = true)
    (hQ : ∀ c a w, Q (.panic c) (a.put (some d) v) w → Q (.panic c) a w) (hw : Region.wanted ⟨some d, op, ty, pos, af, g⟩ (yielded ops a.tmps) = true)
    (hy : ∀ w', S w' → (execOp a.eval ⟨some d, op, ty, pos, af, g⟩).run P w' = .ok (.value v) w')
    (h : RestS P ops Q S fuel (listed.setIfInBounds i true) (a.put (some d) v) w) : RestS P ops Q S (fuel + 1) listed a w :=
  fun hS => wpAnyH_take hi hs hf hr hQ (.inl ⟨hw, hy⟩) hS (h hS)
theorem restS_skip (i : Nat) {d : Tmp} {op : Op} {ty : TypeId} {pos : String} {af : Array Edge} {g : Option (Nat × Bool)} {fuel : Nat} {listed : Array Bool} {a : Act} {w : World}
    (hi : ops[i]? = some ⟨some d, op, ty, pos, af, g⟩) (hs : Region.noSelect ops = true) (hf : Region.free .any ops listed i = true) (hr : (Region.ready .any ops listed).contains i = true)
    (hQ : ∀ c a w, Q (.panic c) (a.put (some d) undef) w → Q (.panic c) a w) (hw : Region.wanted ⟨some d, op, ty, pos, af, g⟩ (yielded ops a.tmps) = false)
    (h : RestS P ops Q S fuel (listed.setIfInBounds i true) (a.put (some d) undef) w) : RestS P ops Q S (fuel + 1) listed a w :=
  fun hS => wpAnyH_take hi hs hf hr hQ (.inr ⟨hw, rfl⟩) hS (h hS)
theorem restS_alone (i : Nat) {d : Option Tmp} {op : Op} {ty : TypeId} {pos : String} {af : Array Edge} {g : Option (Nat × Bool)} {fuel : Nat} {listed : Array Bool} {a : Act} {w : World}
    (hi : ops[i]? = some ⟨d, op, ty, pos, af, g⟩) (hr : Region.ready .any ops listed = [i]) (hw : Region.wanted ⟨d, op, ty, pos, af, g⟩ (yielded ops a.tmps) = true)
    (h : S w → ∀ K' : Act → World → Prop, Shut (∀ a w, S w → RestS P ops Q S fuel (listed.setIfInBounds i true) a w → K' a w) → Oper.wp P ⟨d, op, ty, pos, af, g⟩ a w K' Q) : RestS P ops Q S (fuel + 1) listed a w :=
  fun hS => wpAnyH_ready hr (by simp) (AllReadyH.cons hi (fun K hK => by rw [if_pos hw]; exact h hS K (fun a w hs hr => hK a w hs fun h2 => hr h2)) AllReadyH.nil)
theorem restS_done {fuel : Nat} {listed : Array Bool} {a : Act} {w : World} (hr : Region.ready .any ops listed = []) (h : S w → Q .normal a w) : RestS P ops Q S fuel listed a w :=
  fun hS => wpAnyH_done hr (h hS) _
theorem restS_two (i j : Nat) {d1 d2 : Option Tmp} {op1 op2 : Op} {ty1 ty2 : TypeId} {pos1 pos2 : String} {af1 af2 : Array Edge} {g1 g2 : Option (Nat × Bool)} {fuel : Nat} {listed : Array Bool} {a : Act} {w : World}
    (hi : ops[i]? = some ⟨d1, op1, ty1, pos1, af1, g1⟩) (hj : ops[j]? = some ⟨d2, op2, ty2, pos2, af2, g2⟩) (hr : Region.ready .any ops listed = [i, j]) (hwi : Region.wanted ⟨d1, op1, ty1, pos1, af1, g1⟩ (yielded ops a.tmps) = true) (hwj : Region.wanted ⟨d2, op2, ty2, pos2, af2, g2⟩ (yielded ops a.tmps) = true)
    (h1 : S w → ∀ K' : Act → World → Prop, Shut (∀ a w, S w → RestS P ops Q S fuel (listed.setIfInBounds i true) a w → K' a w) → Oper.wp P ⟨d1, op1, ty1, pos1, af1, g1⟩ a w K' Q)
    (h2 : S w → ∀ K' : Act → World → Prop, Shut (∀ a w, S w → RestS P ops Q S fuel (listed.setIfInBounds j true) a w → K' a w) → Oper.wp P ⟨d2, op2, ty2, pos2, af2, g2⟩ a w K' Q) : RestS P ops Q S (fuel + 1) listed a w :=
  fun hS => wpAnyH_ready hr (by simp) (AllReadyH.cons hi (fun K hK => by rw [if_pos hwi]; exact h1 hS K (fun a w hs hr => hK a w hs fun h2 => hr h2))
    (AllReadyH.cons hj (fun K hK => by rw [if_pos hwj]; exact h2 hS K (fun a w hs hr => hK a w hs fun h2 => hr h2)) AllReadyH.nil))
theorem later_of {w0 w : World} (h : Below w0.heap.size w0 w) : ∃ x : Later w0, w = x.w := ⟨⟨w, h⟩, rfl⟩
end
end Go.Proofs.Ytmjafclpeknpcaa
