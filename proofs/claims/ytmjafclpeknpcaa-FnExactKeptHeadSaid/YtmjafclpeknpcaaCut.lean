/- Slices of slices of int64; own boxes that are written; literal slices of structs; append on slices of structs as one operation. -/
import Derived.Test.YtmjafclpeknpcaaReg
import Derived.Test.YtmjafclpeknpcaaAcc
import Derived.Test.YtmjafclpeknpcaaDec
namespace Go.Proofs.Ytmjafclpeknpcaa
open Go.RowKit
theorem slice_low {P : Program} {t e : TypeId} {i : TypeInfo} (hu : P.underlying t = some (.slice e)) (hi : P.info? e = some i) (h1 : i.size = 1) {w : World} {ao : Option Addr} {l : List Int} (cap k : Nat) (h : IntsR w ao l) (hk : k ≤ l.length) (hc : l.length ≤ cap) :
    ∃ ao', (∀ W, (Instr.slice t (.slice ao l.length cap) (some (.int .i64 (k : Int))) none none).run P W = .ok (.slice ao' (l.length - k) (cap - k)) W) ∧ IntsR w ao' (l.drop k) := by
  refine ⟨if cap = k then ao else ao.map (·.add (k * 1)), fun W => ?_, fun x hx => h.1 x (List.mem_of_mem_drop hx), by have := h.2.1; simp; omega, ?_⟩
  · have hb : (0 : Int) ≤ k ∧ (k : Int) ≤ l.length := by omega
    simp [Instr.slice, run_underlying hu, Instr.sliceBounds, Instr.sliceBound, sizeOf, typeInfo, hi, h1, asIntOf, hb, hk]
  · rcases h.2.2 with rfl | ⟨b, off, rfl, hlt, hcell⟩
    · exact .inl (by simp)
    · by_cases hck : cap = k
      · exact .inl (List.drop_eq_nil_of_le (by omega))
      · rw [if_neg hck]
        refine .inr ⟨b, off + k, by simp [Addr.add_lit], hlt, fun j x hx => ?_⟩
        rw [List.getElem?_drop] at hx
        have := hcell (k + j) x hx
        rwa [show off + (k + j) = off + k + j by omega] at this
theorem slice_cut {P : Program} {t e : TypeId} {i : TypeInfo} (hu : P.underlying t = some (.slice e)) (hi : P.info? e = some i) (h1 : i.size = 1) {w : World} {ao : Option Addr} {l : List Int} (cap lo hi' : Nat) (h : IntsR w ao l) (hlo : lo ≤ hi') (hk : hi' ≤ l.length) (hc : l.length ≤ cap) :
    ∃ ao', (∀ W, (Instr.slice t (.slice ao l.length cap) (some (.int .i64 (lo : Int))) (some (.int .i64 (hi' : Int))) none).run P W = .ok (.slice ao' (hi' - lo) (cap - lo)) W) ∧ IntsR w ao' ((l.drop lo).take (hi' - lo)) := by
  refine ⟨if cap = lo then ao else ao.map (·.add (lo * 1)), fun W => ?_, fun x hx => h.1 x (List.mem_of_mem_drop (List.mem_of_mem_take hx)), by have := h.2.1; simp; omega, ?_⟩
  · have hb : (0 : Int) ≤ lo ∧ (lo : Int) ≤ hi' := by omega
    have hb2 : (0 : Int) ≤ hi' ∧ (hi' : Int) ≤ cap := by omega
    simp [Instr.slice, run_underlying hu, Instr.sliceBounds, Instr.sliceBound, sizeOf, typeInfo, hi, h1, asIntOf, hb, hb2, hlo]
    omega
  · rcases h.2.2 with rfl | ⟨b, off, rfl, hlt, hcell⟩
    · exact .inl (by simp)
    · by_cases hck : cap = lo
      · exact .inl (by rw [List.drop_eq_nil_of_le (by omega)]; simp)
      · rw [if_neg hck]
        refine .inr ⟨b, off + lo, by simp [Addr.add_lit], hlt, fun j x hx => ?_⟩
        have hx2 : (l.drop lo)[j]? = some x := by
          rw [List.getElem?_take] at hx
          split at hx
          · exact hx
          · simp at hx
        rw [List.getElem?_drop] at hx2
        have := hcell (lo + j) x hx2
        rwa [show off + (lo + j) = off + lo + j by omega] at this
theorem slice_high {P : Program} {t e : TypeId} {i : TypeInfo} (hu : P.underlying t = some (.slice e)) (hi : P.info? e = some i) (_h1 : i.size = 1) {w : World} {ao : Option Addr} {l : List Int} (cap k : Nat) (h : IntsR w ao l) (hk : k ≤ l.length) (hc : l.length ≤ cap) :
    ∃ ao', (∀ W, (Instr.slice t (.slice ao l.length cap) none (some (.int .i64 (k : Int))) none).run P W = .ok (.slice ao' k cap) W) ∧ IntsR w ao' (l.take k) := by
  refine ⟨if cap = 0 then ao else ao.map (·.add (0 * 1)), fun W => ?_, fun x hx => h.1 x (List.mem_of_mem_take hx), by have := h.2.1; simp; omega, ?_⟩
  · have hb : (0 : Int) ≤ k ∧ (k : Int) ≤ cap := by omega
    simp [Instr.slice, run_underlying hu, Instr.sliceBounds, Instr.sliceBound, sizeOf, typeInfo, hi, asIntOf, hb]
    omega
  · rcases h.2.2 with rfl | ⟨b, off, rfl, hlt, hcell⟩
    · exact .inl (by simp)
    · by_cases hck : cap = 0
      · exact .inl (List.eq_nil_of_length_eq_zero (by simp; omega))
      · rw [if_neg hck]
        refine .inr ⟨b, off, by simp [Addr.add_lit], hlt, fun j x hx => ?_⟩
        rw [List.getElem?_take] at hx
        split at hx
        · exact hcell j x hx
        · simp at hx
theorem Bx.set {w : World} {b : Nat} {L : List Value} (h : Bx w b L) (i : Nat) (v : Value) (hi : i < L.length) : Bx (w.setCell ⟨b, i, none⟩ v) b (L.set i v) := by
  refine ⟨by simp [World.setCell]; exact h.1, fun o => ?_⟩
  by_cases ho : o = i
  · subst ho
    rw [List.getElem?_set_self hi]
    have hc : w.cell? ⟨b, o, none⟩ = some L[o] := by rw [h.2 o]; exact List.getElem?_eq_getElem hi
    exact World.cell?_setCell_same _ _ _ hc
  · rw [List.getElem?_set_ne (fun e => ho e.symm), ← h.2 o]
    exact World.cell?_setCell_other _ _ _ _ (fun e => ho (Addr.mk.inj e).2.1.symm)
theorem Bx.setOther {w : World} {b : Nat} {L : List Value} (h : Bx w b L) (a : Addr) (v : Value) (ha : a.block ≠ b) : Bx (w.setCell a v) b L := by
  refine ⟨by simp [World.setCell]; exact h.1, fun o => ?_⟩
  rw [← h.2 o]
  exact World.cell?_of_block (Below.heap_setCell w a v b (Ne.symm ha))
theorem Fx.set {w : World} {b : Nat} (h : Fx w b) (a : Addr) (v : Value) : Fx (w.setCell a v) b := ⟨by simp [World.setCell]; exact h.1, fun o => by rw [World.frozen?_setCell]; exact h.2 o⟩
theorem Fx.grown {w w' : World} {b : Nat} {row : Option Nat} (h : Fx w b) (hg : w.grownBy w' row) (hne : row ≠ some b) : Fx w' b :=
  ⟨Nat.lt_of_lt_of_le h.1 hg.size, fun o => (World.frozen?_of_block (hg.block b h.1 (fun e => hne e.symm))).trans (h.2 o)⟩
section
variable {α : Type} {E : Enc α}
theorem ownA_lit (E : Enc α) (w : World) (lo ty : Nat) (d : α) (hb : lo ≤ w.heap.size) (hok : E.ok d) :
    OwnA E (w.alloc (.cells (E.cells d).toArray ty)) lo ty (.slice (some ⟨w.heap.size, 0, none⟩) 1 1) [d] := by
  refine ⟨by simpa using hok, by simp, ?_⟩
  have := World.ownsRow_lit (base := lo) (e := ty) (size := E.n) w (E.cells d).toArray 1 hb (by unfold maxLen; omega) (by simp [E.len])
  simpa using this
theorem ownA_nil (E : Enc α) (w : World) (lo ty : Nat) : OwnA E w lo ty (.slice none 0 0) [] := ⟨by simp, by simp, World.ownsRow_nil _ _ _ _⟩
variable {P : Program} {w : World} {o : Oper} {a : Act} {K : Act → World → Prop} {Q : Exit → Act → World → Prop}
theorem wpo_append_rows (s x : Operand) (t : TypeId) (ho : o.op = .call { callee := .builtin .append, args := #[s, x], argTypes := #[t, t] })
    (lo e : Nat) (i : TypeInfo) (z : Value) (bytes : Nat) (ht : P.underlying t = some (.slice e)) (hi : P.info? e = some i) (hz : i.zero = some z) (hsize : i.size = E.n) (hby : i.bytes = bytes) (hzs : z.cells.size = E.n) (hb : bytes ≤ 128)
    (hone : ∀ d : α, ∀ u ∈ E.cells d, u.oneCell' = true)
    (ao ao2 : Option Addr) (cap cap2 : Nat) (l m : List α) (hs : a.eval s = .slice ao l.length cap) (hown : OwnA E w lo e (.slice ao l.length cap) l) (hx : a.eval x = .slice ao2 m.length cap2) (hrd : ReadA E w ao2 m)
    (hlen : l.length + m.length ≤ 1099511627776) (hbase : lo ≤ w.heap.size)
    (h : ∀ ao' cap' w', OwnA E w' lo e (.slice ao' (l ++ m).length cap') (l ++ m) → w.grownBy w' (Value.ownBlock (.slice ao l.length cap)) → K (a.put o.dst (.slice ao' (l ++ m).length cap')) w') : Oper.wp P o a w K Q := by
  obtain ⟨v', w', hr, h2, h3⟩ := run_append_src (P := P) (w := w) lo t o.type e i z E.n bytes ht hi hz hsize hby hzs E.pos _ _ _ hown.2.2 ao2 m.length cap2 (m.flatMap E.cells) (length_flatMap E m) (srcA hrd) (fun u hu => by
    obtain ⟨d, _, hd⟩ := List.mem_flatMap.1 hu
    exact hone d u hd) (by unfold maxLen; omega) (Nat.le_trans (Nat.mul_le_mul hlen hb) (by decide)) hbase
  unfold Oper.wp execOp
  simp only [ho, resolve, invoke, builtin, Sem.run_bind, Sem.run_pure, Result.andThen_ok, List.map_toArray, List.map_cons, List.map_nil, hs, hx, hr]
  obtain ⟨ao', cap', rfl⟩ := owns_form h2
  rw [← List.flatMap_append, ← List.length_append] at h2
  rw [← List.length_append]
  exact h ao' cap' w' ⟨fun y hy => by
    rcases List.mem_append.1 hy with hy | hy
    · exact hown.1 y hy
    · exact hrd.1 y hy, by rw [List.length_append]; omega, h2⟩ h3
end
end Go.Proofs.Ytmjafclpeknpcaa
