/- Arguments that hold slices of slices: opened; what the walks read of them. -/
import Derived.Test.YtmjafclpeknpcaaOwn
namespace Go.Proofs.Ytmjafclpeknpcaa
open Go.ChangeShapes Go.WideShapes Go.ChangeAt Go.RowKit Go.Deep
section
variable {H : Type} {enc : TypeId × Value → H} {P : Program} {w : World} {base : Nat} {spare : Nat → Bool} {held : Bool} {α : Type}
theorem rd_list (A : En α) {e : TypeId} {v : Value} (hC : P.cellsOf e = A.n) (hO : ∀ n cs y, DataW.trod enc P w base spare held n e cs = some y → ∃ x, Rd A w x cs) (h : ClOk enc P w base spare held (.slice e) v) :
    ∃ l, Rd (listE A) w l [v] := by
  rcases h with rfl | ⟨a, len, cap, n, rfl, hl, hm, hi⟩
  · exact ⟨[], [], none, 0, rfl, Nat.le_refl _, Nat.zero_le _, .inl ⟨rfl, rfl⟩⟩
  · have hch : ∃ (l : List α) (Fs : List (List Nat)), l.length = len ∧ Fs.length = len ∧ ∀ i x G, l[i]? = some x → Fs[i]? = some G → ∃ vs, A.rd w x vs G ∧ w.cells? base (a.add (i * A.n)) A.n = some vs := by
      clear hl
      induction len with
      | zero => exact ⟨[], [], rfl, rfl, by simp⟩
      | succ k ih =>
        obtain ⟨l, Fs, h1, h2, h3⟩ := ih (fun i h => hi i (by omega))
        obtain ⟨cs', y, h4, h5⟩ := hi k (by omega)
        obtain ⟨x, G, h6⟩ := hO _ _ _ h5
        rw [hC] at h4
        refine ⟨l ++ [x], Fs ++ [G], by simp [h1], by simp [h2], fun i q G' e1 e2 => ?_⟩
        by_cases hik : i < k
        · rw [List.getElem?_append_left (by omega)] at e1 e2
          exact h3 i q G' e1 e2
        · have hik2 : i = k := by have := (List.getElem?_eq_some_iff.1 e1).1; simp at this; omega
          subst hik2
          rw [List.getElem?_append_right (by omega), h1, Nat.sub_self] at e1
          rw [List.getElem?_append_right (by omega), h2, Nat.sub_self] at e2
          simp only [List.getElem?_cons_zero, Option.some.injEq] at e1 e2
          subst e1; subst e2
          exact ⟨cs', h6, h4⟩
    obtain ⟨l, Fs, rfl, h2, h3⟩ := hch
    by_cases h0 : l = []
    · subst h0
      exact ⟨[], [], some a, cap, rfl, hl, hm, .inl ⟨rfl, rfl⟩⟩
    · have hpos : 0 < l.length := List.length_pos_iff.2 h0
      obtain ⟨b, off, spot⟩ := a
      have hn := A.pos
      have key : ∀ i x G, l[i]? = some x → Fs[i]? = some G → ∃ vs, A.rd w x vs G ∧ ∀ j c, vs[j]? = some c → w.cell? ((Addr.mk b off spot).add (i * A.n) |>.add j) = some c := fun i x G e1 e2 => by
        obtain ⟨vs, k1, k2⟩ := h3 i x G e1 e2
        refine ⟨vs, k1, fun j c hj => ?_⟩
        obtain ⟨_, _, k3⟩ := World.cells?_some k2
        have hjn : j < A.n := by have := (List.getElem?_eq_some_iff.1 hj).1; rwa [A.len k1] at this
        rw [k3 j hjn, hj]
      obtain ⟨vs0, k1, k2⟩ := key 0 _ _ (List.getElem?_eq_getElem hpos) (List.getElem?_eq_getElem (by omega))
      have hk0 := k2 0 _ (List.getElem?_eq_getElem (by rw [A.len k1]; exact hn))
      have hspot : spot = none := by simpa [Addr.add] using World.cell?_spot hk0
      subst hspot
      refine ⟨l, b :: Fs.flatten, some ⟨b, off, none⟩, cap, rfl, hl, hm, .inr ⟨b, off, Fs, rfl, by have := World.block_lt_of_cell? w _ hk0; simpa [Addr.add] using this, rfl, h2, fun i x G e1 e2 => ?_⟩⟩
      obtain ⟨vs, k1, k2⟩ := key i x G e1 e2
      refine ⟨vs, k1, fun j c hj => ?_⟩
      have := k2 j c hj
      rwa [Addr.add_lit, Addr.add_lit] at this
theorem opens_num {t : TypeId} (hf : flat P 5 t = some [.int]) : ∀ n cs y, DataW.trod enc P w base spare held n t cs = some y → ∃ x, Rd numE w x cs := fun n cs y h => by
  obtain ⟨v, r, rfl, ⟨x, rfl, hx⟩, h2⟩ := (flat_open 5 t cs y _ n hf h).cons
  obtain rfl := h2.nil
  exact ⟨x, [], rfl, hx, rfl⟩
theorem opens_slice (A : En α) {t e : TypeId} (hf : flat P 5 t = some [.slice e]) (hC : P.cellsOf e = A.n) (hO : ∀ n cs y, DataW.trod enc P w base spare held n e cs = some y → ∃ x, Rd A w x cs) :
    ∀ n cs y, DataW.trod enc P w base spare held n t cs = some y → ∃ l, Rd (listE A) w l cs := fun n cs y h => by
  obtain ⟨v, r, rfl, h1, h2⟩ := (flat_open 5 t cs y _ n hf h).cons
  obtain rfl := h2.nil
  exact rd_list A hC hO h1
theorem opens_numslice (A : En α) {t e : TypeId} (hf : flat P 5 t = some [.int, .slice e]) (hC : P.cellsOf e = A.n) (hO : ∀ n cs y, DataW.trod enc P w base spare held n e cs = some y → ∃ x, Rd A w x cs) :
    ∀ n cs y, DataW.trod enc P w base spare held n t cs = some y → ∃ x, Rd (pairE numE (listE A)) w x cs := fun n cs y h => by
  obtain ⟨v, r, rfl, ⟨x, rfl, hx⟩, h2⟩ := (flat_open 5 t cs y _ n hf h).cons
  obtain ⟨u, r, rfl, h3, h4⟩ := h2.cons
  obtain rfl := h4.nil
  obtain ⟨l, hl⟩ := rd_list A hC hO h3
  exact ⟨(x, l), Rd.pair (va := [.int .i64 x]) (vb := [u]) ⟨[], rfl, hx, rfl⟩ hl⟩
end
/-- a list of numbers -/
abbrev intsN : En (List Int) := listE numE
/-- a list of rows -/
abbrev rowsN : En (List (List Int)) := listE intsN
/-- a write that waits: its sector and its row -/
abbrev writeN : En (Int × List Int) := pairE numE intsN
abbrev writesN : En (List (Int × List Int)) := listE writeN
/-- a disk -/
abbrev diskN : En (List (List Int) × List (Int × List Int)) := pairE rowsN writesN
section
variable {w w' : World}
theorem rd_ints {l : List Int} {v : Value} (h : Rd intsN w l [v]) : ∃ ao cap, v = .slice ao l.length cap ∧ IntsR w ao l ∧ l.length ≤ cap := by
  obtain ⟨F, ao, cap, hv, h1, h2, h3⟩ := h
  simp only [List.cons.injEq, and_true] at hv
  subst hv
  unfold maxLen at h2
  rcases h3 with ⟨rfl, _⟩ | ⟨b, off, Fs, rfl, hb, _, h4, h5⟩
  · exact ⟨ao, cap, rfl, ⟨by simp, by simp, .inl rfl⟩, h1⟩
  · have key : ∀ i x, l[i]? = some x → inI64 x ∧ w.cell? ⟨b, off + i, none⟩ = some (.int .i64 x) := fun i x hx => by
      have hi := (List.getElem?_eq_some_iff.1 hx).1
      obtain ⟨vs, ⟨rfl, h6, _⟩, h7⟩ := h5 i x _ hx (List.getElem?_eq_getElem (by omega))
      have h8 := h7 0 _ rfl
      rw [show off + i * numE.n + 0 = off + i by simp [numE]] at h8
      exact ⟨h6, h8⟩
    refine ⟨_, cap, rfl, ⟨fun x hx => ?_, by omega, .inr ⟨b, off, rfl, hb, fun i x hx => (key i x hx).2⟩⟩, h1⟩
    obtain ⟨i, hi⟩ := List.getElem?_of_mem hx
    exact (key i x hi).1
/-- what a walk reads of a list of rows -/
def RowsR (w : World) (ao : Option Addr) (K : List (List Int)) : Prop :=
  K.length ≤ 9223372036854775807 ∧ (K = [] ∨ ∃ b off, ao = some ⟨b, off, none⟩ ∧ b < w.heap.size ∧ ∀ i (hi : i < K.length), ∃ ai ci, w.cell? ⟨b, off + i, none⟩ = some (.slice ai K[i].length ci) ∧ IntsR w ai K[i] ∧ K[i].length ≤ ci)
theorem RowsR.below {ao : Option Addr} {K : List (List Int)} (h : RowsR w ao K) (hb : Below w.heap.size w w') : RowsR w' ao K := by
  refine ⟨h.1, ?_⟩
  rcases h.2 with rfl | ⟨b, off, rfl, hlt, hc⟩
  · exact .inl rfl
  · refine .inr ⟨b, off, rfl, Nat.lt_of_lt_of_le hlt hb.size, fun i hi => ?_⟩
    obtain ⟨ai, ci, h1, h2, h3⟩ := hc i hi
    exact ⟨ai, ci, (hb.cell (p := ⟨b, off + i, none⟩) hlt).trans h1, h2.below hb, h3⟩
theorem RowsR.at {ao : Option Addr} {K : List (List Int)} (h : RowsR w ao K) {k : Nat} (hk : k < K.length) :
    ∃ b off, ao = some ⟨b, off, none⟩ ∧ b < w.heap.size ∧ ∀ i (hi : i < K.length), ∃ ai ci, w.cell? ⟨b, off + i, none⟩ = some (.slice ai K[i].length ci) ∧ IntsR w ai K[i] ∧ K[i].length ≤ ci := by
  rcases h.2 with rfl | h
  · simp at hk
  · exact h
theorem rd_rows {K : List (List Int)} {v : Value} (h : Rd rowsN w K [v]) : ∃ ao cap, v = .slice ao K.length cap ∧ RowsR w ao K ∧ K.length ≤ cap := by
  obtain ⟨F, ao, cap, hv, h1, h2, h3⟩ := h
  simp only [List.cons.injEq, and_true] at hv
  subst hv
  unfold maxLen at h2
  rcases h3 with ⟨rfl, _⟩ | ⟨b, off, Fs, rfl, hb, _, h4, h5⟩
  · exact ⟨ao, cap, rfl, ⟨by simp, .inl rfl⟩, h1⟩
  · refine ⟨_, cap, rfl, ⟨by omega, .inr ⟨b, off, rfl, hb, fun i hi => ?_⟩⟩, h1⟩
    obtain ⟨vs, h6, h7⟩ := h5 i _ _ (List.getElem?_eq_getElem hi) (List.getElem?_eq_getElem (by omega))
    have hl := (listE numE).len h6
    obtain ⟨v, rfl⟩ : ∃ v, vs = [v] := by
      match vs, hl with
      | [v], _ => exact ⟨v, rfl⟩
    obtain ⟨ai, ci, rfl, h8, h9⟩ := rd_ints ⟨_, h6⟩
    have h10 := h7 0 _ rfl
    rw [show off + i * (listE numE).n + 0 = off + i by simp [listE]] at h10
    exact ⟨ai, ci, h10, h8, h9⟩
/-- what a walk reads of a list of writes -/
def WritesR (w : World) (ao : Option Addr) (W : List (Int × List Int)) : Prop :=
  W.length ≤ 9223372036854775807 ∧ (W = [] ∨ ∃ b off, ao = some ⟨b, off, none⟩ ∧ b < w.heap.size ∧ ∀ i (hi : i < W.length), inI64 W[i].1 ∧ w.cell? ⟨b, off + i * 2, none⟩ = some (.int .i64 W[i].1) ∧
    ∃ ai ci, w.cell? ⟨b, off + i * 2 + 1, none⟩ = some (.slice ai W[i].2.length ci) ∧ IntsR w ai W[i].2 ∧ W[i].2.length ≤ ci)
theorem WritesR.below {ao : Option Addr} {W : List (Int × List Int)} (h : WritesR w ao W) (hb : Below w.heap.size w w') : WritesR w' ao W := by
  refine ⟨h.1, ?_⟩
  rcases h.2 with rfl | ⟨b, off, rfl, hlt, hc⟩
  · exact .inl rfl
  · refine .inr ⟨b, off, rfl, Nat.lt_of_lt_of_le hlt hb.size, fun i hi => ?_⟩
    obtain ⟨h0, h00, ai, ci, h1, h2, h3⟩ := hc i hi
    exact ⟨h0, (hb.cell (p := ⟨b, off + i * 2, none⟩) hlt).trans h00, ai, ci, (hb.cell (p := ⟨b, off + i * 2 + 1, none⟩) hlt).trans h1, h2.below hb, h3⟩
theorem WritesR.at {ao : Option Addr} {W : List (Int × List Int)} (h : WritesR w ao W) {k : Nat} (hk : k < W.length) :
    ∃ b off, ao = some ⟨b, off, none⟩ ∧ b < w.heap.size ∧ ∀ i (hi : i < W.length), inI64 W[i].1 ∧ w.cell? ⟨b, off + i * 2, none⟩ = some (.int .i64 W[i].1) ∧
    ∃ ai ci, w.cell? ⟨b, off + i * 2 + 1, none⟩ = some (.slice ai W[i].2.length ci) ∧ IntsR w ai W[i].2 ∧ W[i].2.length ≤ ci := by
  rcases h.2 with rfl | h
  · simp at hk
  · exact h
theorem rd_writes {W : List (Int × List Int)} {v : Value} (h : Rd writesN w W [v]) : ∃ ao cap, v = .slice ao W.length cap ∧ WritesR w ao W ∧ W.length ≤ cap := by
  obtain ⟨F, ao, cap, hv, h1, h2, h3⟩ := h
  simp only [List.cons.injEq, and_true] at hv
  subst hv
  unfold maxLen at h2
  rcases h3 with ⟨rfl, _⟩ | ⟨b, off, Fs, rfl, hb, _, h4, h5⟩
  · exact ⟨ao, cap, rfl, ⟨by simp, .inl rfl⟩, h1⟩
  · refine ⟨_, cap, rfl, ⟨by omega, .inr ⟨b, off, rfl, hb, fun i hi => ?_⟩⟩, h1⟩
    obtain ⟨vs, ⟨va, vb, Fa, Fb, rfl, _, ⟨rfl, h6, _⟩, h8⟩, h7⟩ := h5 i _ _ (List.getElem?_eq_getElem hi) (List.getElem?_eq_getElem (by omega))
    have hl := (listE numE).len h8
    obtain ⟨v, rfl⟩ : ∃ v, vb = [v] := by
      match vb, hl with
      | [v], _ => exact ⟨v, rfl⟩
    obtain ⟨ai, ci, rfl, h9, h10⟩ := rd_ints ⟨_, h8⟩
    have e0 := h7 0 _ rfl
    have e1 := h7 1 _ rfl
    have en : (pairE numE intsN).n = 2 := rfl
    rw [en, Nat.add_zero] at e0
    rw [en] at e1
    exact ⟨h6, e0, ai, ci, e1, h9, h10⟩
end
end Go.Proofs.Ytmjafclpeknpcaa
