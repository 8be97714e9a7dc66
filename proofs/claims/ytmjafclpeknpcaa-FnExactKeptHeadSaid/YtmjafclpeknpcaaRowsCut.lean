/- Slices of slices of rows. -/
import Derived.Test.YtmjafclpeknpcaaCut
namespace Go.Proofs.Ytmjafclpeknpcaa
open Go.RowKit
section
variable {α : Type} {E : Enc α}
def cutAo (ao : Option Addr) (cap lo n : Nat) : Option Addr := if cap = lo then ao else ao.map (·.add (lo * n))
theorem run_cut_rows {P : Program} {t e : TypeId} {i : TypeInfo} (hu : P.underlying t = some (.slice e)) (hi : P.info? e = some i) (n : Nat) (h1 : i.size = n) (ao : Option Addr) (len cap lo hi' : Nat) (hlo : lo ≤ hi') (hk : hi' ≤ len) (hc : len ≤ cap) (W : World) :
    (Instr.slice t (.slice ao len cap) (some (.int .i64 (lo : Int))) (some (.int .i64 (hi' : Int))) none).run P W = .ok (.slice (cutAo ao cap lo n) (hi' - lo) (cap - lo)) W := by
  have hb : (0 : Int) ≤ lo ∧ (lo : Int) ≤ hi' := by omega
  have hb2 : (0 : Int) ≤ hi' ∧ (hi' : Int) ≤ cap := by omega
  simp [Instr.slice, run_underlying hu, Instr.sliceBounds, Instr.sliceBound, sizeOf, typeInfo, hi, h1, asIntOf, hb, hb2, hlo, cutAo]
  omega
theorem run_low_rows {P : Program} {t e : TypeId} {i : TypeInfo} (hu : P.underlying t = some (.slice e)) (hi : P.info? e = some i) (n : Nat) (h1 : i.size = n) (ao : Option Addr) (len cap lo : Nat) (hlo : lo ≤ len) (W : World) :
    (Instr.slice t (.slice ao len cap) (some (.int .i64 (lo : Int))) none none).run P W = .ok (.slice (cutAo ao cap lo n) (len - lo) (cap - lo)) W := by
  have hb : (0 : Int) ≤ lo ∧ (lo : Int) ≤ len := by omega
  simp [Instr.slice, run_underlying hu, Instr.sliceBounds, Instr.sliceBound, sizeOf, typeInfo, hi, h1, asIntOf, hb, hlo, cutAo]
theorem read_cut_rows {w : World} {ao : Option Addr} {l : List α} (h : ReadA E w ao l) (cap lo hi' : Nat) (hk : hi' ≤ l.length) (hc : l.length ≤ cap) :
    ReadA E w (cutAo ao cap lo E.n) ((l.drop lo).take (hi' - lo)) := by
  refine ⟨fun x hx => h.1 x (List.mem_of_mem_drop (List.mem_of_mem_take hx)), by have := h.2.1; simp; omega, ?_⟩
  rcases h.2.2 with rfl | ⟨b, off, rfl, hlt, hcell⟩
  · exact .inl (by simp)
  · by_cases hck : cap = lo
    · exact .inl (by rw [List.drop_eq_nil_of_le (by omega)]; simp)
    · rw [cutAo, if_neg hck]
      refine .inr ⟨b, off + lo * E.n, by simp [Addr.add_lit], hlt, fun j x hx k c hkc => ?_⟩
      have hx2 : (l.drop lo)[j]? = some x := by
        rw [List.getElem?_take] at hx
        split at hx
        · exact hx
        · simp at hx
      rw [List.getElem?_drop] at hx2
      have h7 := hcell (lo + j) x hx2 k c hkc
      rwa [show off + (lo + j) * E.n + k = off + lo * E.n + j * E.n + k by rw [Nat.add_mul]; omega] at h7
end
end Go.Proofs.Ytmjafclpeknpcaa
