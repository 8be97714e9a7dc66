/- Drawn regions beside one block of the call's own; append as one operation. -/
import Derived.Test.YtmjafclpeknpcaaTakeS
import Derived.Test.YtmjafclpeknpcaaBx
import Derived.Test.YtmjafclpeknpcaaApp
import Derived.Test.YtmjafclpeknpcaaOne
namespace Go.Proofs.Ytmjafclpeknpcaa
open Go.RowKit
/-- nothing that lay in w0 has changed, and block B holds L -/
def SB (w0 : World) (B : Nat) (L : List Value) (W : World) : Prop := Below w0.heap.size w0 W ∧ Bx W B L
section
variable {w0 W W' : World} {B : Nat} {L : List Value}
theorem SB.start (h : Below w0.heap.size w0 W) (hb : Bx W B L) : SB w0 B L W.drew := ⟨h.drew, hb⟩
theorem SB.step (h : SB w0 B L W) (hb : Below W.heap.size W W') : SB w0 B L W' := ⟨bl_step hb h.1.size h.1, h.2.below hb⟩
theorem SB.alloc (h : SB w0 B L W) (o : Obj) : SB w0 B L (W.alloc o) := ⟨h.1.alloc h.1.size o, h.2.alloc o⟩
theorem SB.grown {row : Option Nat} (h : SB w0 B L W) (hg : W.grownBy W' row) (h1 : ∀ k, row = some k → w0.heap.size ≤ k) (hne : row ≠ some B) : SB w0 B L W' := ⟨h.1.grown hg h.1.size h1, h.2.grown hg hne⟩
theorem SB.lit (h : SB w0 B L W) (lo ty : Nat) (l : List Int) (hlo : lo ≤ B + 1) (hl : l.length ≤ 1099511627776) (hin : ∀ x ∈ l, inI64 x) :
    IntsO (W.alloc (.cells (l.map (Value.int .i64)).toArray ty)) lo ty (.slice (some ⟨W.heap.size, 0, none⟩) l.length l.length) l := owns_lit W lo ty l (Nat.le_trans hlo h.2.1) hl hin
end
section
variable {P : Program} {w : World} {o : Oper} {a : Act} {K : Act → World → Prop} {Q : Exit → Act → World → Prop}
/-- append on []int64, as one operation -/
theorem wpo_append_ints (s x : Operand) (t : TypeId) (ho : o.op = .call { callee := .builtin .append, args := #[s, x], argTypes := #[t, t] })
    (lo e : Nat) (i : TypeInfo) (ht : P.underlying t = some (.slice e)) (hi : P.info? e = some i) (hz : i.zero = some (.int .i64 0)) (hsize : i.size = 1) (hby : i.bytes = 8)
    (ao ao2 : Option Addr) (cap cap2 : Nat) (l m : List Int) (hs : a.eval s = .slice ao l.length cap) (hown : IntsO w lo e (.slice ao l.length cap) l) (hx : a.eval x = .slice ao2 m.length cap2) (hrd : IntsR w ao2 m)
    (hlen : l.length + m.length ≤ 1099511627776) (hbase : lo ≤ w.heap.size)
    (h : ∀ ao' cap' w', IntsO w' lo e (.slice ao' (l ++ m).length cap') (l ++ m) → w.grownBy w' (Value.ownBlock (.slice ao l.length cap)) → K (a.put o.dst (.slice ao' (l ++ m).length cap')) w') : Oper.wp P o a w K Q := by
  obtain ⟨v', w', hr, h2, h3⟩ := run_append_src (P := P) (w := w) lo t o.type e i (.int .i64 0) 1 8 ht hi hz hsize hby rfl (by decide) _ _ _ hown.2.2 ao2 m.length cap2 (m.map (Value.int .i64)) (by simp) (srcI hrd) (ints_oneCell _ _) (by unfold maxLen; omega) (by omega) hbase
  unfold Oper.wp execOp
  simp only [ho, resolve, invoke, builtin, Sem.run_bind, Sem.run_pure, Result.andThen_ok, List.map_toArray, List.map_cons, List.map_nil, hs, hx, hr]
  obtain ⟨ao', cap', rfl⟩ := owns_form h2
  rw [← List.map_append, ← List.length_append] at h2
  rw [← List.length_append]
  exact h ao' cap' w' ⟨fun y hy => by
    rcases List.mem_append.1 hy with hy | hy
    · exact hown.1 y hy
    · exact hrd.1 y hy, by rw [List.length_append]; omega, h2⟩ h3
end
end Go.Proofs.Ytmjafclpeknpcaa
