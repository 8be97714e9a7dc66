/- append of one row, with where the slice lies afterwards. -/
import Derived.Test.YtmjafclpeknpcaaCut
import Derived.Maps.AppendAt
namespace Go.Proofs.Ytmjafclpeknpcaa
open Go.RowKit
section
variable {α : Type} {E : Enc α}
variable {P : Program} {w : World} {o : Oper} {a : Act} {K : Act → World → Prop} {Q : Exit → Act → World → Prop}
theorem wpo_append_one (s x : Operand) (t : TypeId) (ho : o.op = .call { callee := .builtin .append, args := #[s, x], argTypes := #[t, t] })
    (lo e : Nat) (i : TypeInfo) (z : Value) (bytes : Nat) (ht : P.underlying t = some (.slice e)) (hi : P.info? e = some i) (hz : i.zero = some z) (hsize : i.size = E.n) (hby : i.bytes = bytes) (hzs : z.cells.size = E.n) (hb : bytes ≤ 128)
    (hone : ∀ d : α, ∀ u ∈ E.cells d, u.oneCell' = true)
    (ao ao2 : Option Addr) (cap cap2 : Nat) (l : List α) (d : α) (hs : a.eval s = .slice ao l.length cap) (hown : OwnA E w lo e (.slice ao l.length cap) l) (hx : a.eval x = .slice ao2 1 cap2) (hrd : ReadA E w ao2 [d])
    (hlen : l.length + 1 ≤ 1099511627776) (hbase : lo ≤ w.heap.size)
    (h : ∀ ao' cap' w', OwnA E w' lo e (.slice ao' (l.length + 1) cap') (l ++ [d]) → w.grownBy w' (Value.ownBlock (.slice ao l.length cap)) → (Value.ownBlock (.slice ao' (l.length + 1) cap') = Value.ownBlock (.slice ao l.length cap) ∨ Value.ownBlock (.slice ao' (l.length + 1) cap') = some w.heap.size) → K (a.put o.dst (.slice ao' (l.length + 1) cap')) w') : Oper.wp P o a w K Q := by
  have hsrc := srcA hrd
  have hne : ([d].flatMap E.cells) ≠ [] := by
    intro h9
    have h8 := congrArg List.length h9
    rw [length_flatMap] at h8
    simp only [List.length_cons, List.length_nil] at h8
    have := E.pos
    omega
  rcases hsrc with h0 | ⟨ad, rfl, hc⟩
  · exact absurd h0 hne
  obtain ⟨v', w', hr, h2, h3, _, h5⟩ := run_append_own_at (P := P) (w := w) lo t o.type e i z E.n bytes ht hi hz hsize hby hzs E.pos _ _ _ hown.2.2 ad 1 cap2 ([d].flatMap E.cells) (length_flatMap E [d]) hc (fun u hu => by
    obtain ⟨d', _, hd⟩ := List.mem_flatMap.1 hu
    exact hone d' u hd) (by unfold maxLen; omega) (Nat.le_trans (Nat.mul_le_mul hlen hb) (by decide)) hbase
  unfold Oper.wp execOp
  simp only [ho, resolve, invoke, builtin, Sem.run_bind, Sem.run_pure, Result.andThen_ok, List.map_toArray, List.map_cons, List.map_nil, hs, hx, hr]
  obtain ⟨ao', cap', rfl⟩ := owns_form h2
  rw [← List.flatMap_append] at h2
  exact h ao' cap' w' ⟨fun y hy => by
    rcases List.mem_append.1 hy with hy | hy
    · exact hown.1 y hy
    · exact hrd.1 y hy, by rw [List.length_append]; simp only [List.length_cons, List.length_nil]; omega, by rw [List.length_append]; exact h2⟩ h3 h5
end
end Go.Proofs.Ytmjafclpeknpcaa
