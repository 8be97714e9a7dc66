/- An argument that is a slice of numbers: opened. No program in it. -/
import Derived.ChangeSlices
import Derived.Test.YtphaggopgdbojaaGreatFaVO
namespace Go.Proofs.YtphaggopgdbojaaGreat
open Go.ChangeShapes Go.WideShapes Go.ChangeAt Go.RowKit Go.Deep
theorem open_intsX {H : Type} {enc : TypeId × Value → H} {P : Program} {W : World} {t e : TypeId} {ao : Option Addr} {len cap : Nat} {d : DataW H} {p : List MemPlace}
    (ht : P.underlying t = some (.slice e)) (he : P.underlying e = some (.int .i64)) (hC : P.cellsOf e = 1) (h : DataW.Trod enc P W 0 (fun _ => true) true t (.slice ao len cap) d p) :
    ∃ l : List Int, RdX (fun b => W.heap[b]?) (.s 1 (l.map fun x => [.v (.int .i64 x)])) (.slice ao len cap) := by
  obtain ⟨fuel, hf⟩ := h
  rcases open_ints ht he hC hf with ⟨hcs, _⟩ | ⟨x, l, c, zs, hcs, _, hl, hm, hz, _, hcell, hwz⟩
  · simp [Value.cells] at hcs
    obtain ⟨rfl, rfl, rfl⟩ := hcs
    exact ⟨[], 1, none, 0, rfl, Nat.le_refl _, Nat.zero_le _, by simp, .inl rfl⟩
  · simp [Value.cells] at hcs
    obtain ⟨rfl, rfl, rfl⟩ := hcs
    have hzl : zs.length = cap := by simpa using hz
    have hln : ((zs.take len).map fun x => [C.v (.int .i64 x)]).length = len := by simp; omega
    refine ⟨zs.take len, 1, some x, cap, by rw [hln], by rw [hln]; omega, by unfold maxLen at *; omega, fun cs hcs => ?_, ?_⟩
    · obtain ⟨x, _, rfl⟩ := List.mem_map.1 hcs
      rfl
    by_cases h0 : len = 0
    · subst h0; exact .inl (by simp)
    · right
      obtain ⟨b, off, spot⟩ := x
      have hc0 := hcell 0 (by omega)
      have hspot : spot = none := by simpa [Addr.add] using World.cell?_spot hc0
      subst hspot
      refine ⟨b, off, rfl, fun k cs hk j c hj => ?_⟩
      rw [List.getElem?_map] at hk
      cases hy : (zs.take len)[k]? with
      | none => rw [hy] at hk; cases hk
      | some y =>
        rw [hy] at hk
        simp only [Option.map_some, Option.some.injEq] at hk
        subst hk
        have hi : k < len := by have := (List.getElem?_eq_some_iff.1 hy).1; simp at this; omega
        cases j with
        | succ j => simp at hj
        | zero =>
          simp only [List.getElem?_cons_zero, Option.some.injEq] at hj
          subst hj
          have h1 := hcell k (by omega)
          rw [List.getElem?_take_of_lt hi] at hy
          have e1 : (Addr.mk b off none).add k = ⟨b, off + k, none⟩ := Addr.add_lit b off k
          rw [e1] at h1
          refine ⟨.int .i64 y, ?_, rdv (w := W) rfl⟩
          rw [show off + k * 1 + 0 = off + k by omega]
          exact rcell_of (h1.trans (by simp [List.getD, hy]))
end Go.Proofs.YtphaggopgdbojaaGreat
