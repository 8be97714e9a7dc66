/- Slices that a call makes whose elements hold slices of their own: by append, element by element, or written in place. -/
import Derived.Test.YtmjafclpeknpcaaOwn
import Derived.Test.YtmjafclpeknpcaaRowsAt
namespace Go.Proofs.Ytmjafclpeknpcaa
open Go.ChangeShapes Go.WideShapes Go.ChangeAt Go.RowKit Go.Deep
section
variable {α ρ : Type}
/-- a slice of its own; its elements lie in blocks of their own -/
structure Nest (A : En α) (E : Enc ρ) (w : World) (lo ty : Nat) (v : Value) (l : List α) (rs : List ρ) (Fs : List (List Nat)) : Prop where
  own : OwnA E w lo ty v rs
  len : rs.length = l.length
  lenF : Fs.length = l.length
  els : ∀ (i : Nat) (x : α) (r : ρ) (G : List Nat), l[i]? = some x → rs[i]? = some r → Fs[i]? = some G → A.rd w x (E.cells r) G
  nodup : (v.ownBlock.toList ++ Fs.flatten).Nodup
  low : ∀ b ∈ Fs.flatten, lo ≤ b
  free : Free w Fs.flatten
variable {A : En α} {E : Enc ρ} {w w' : World} {lo ty : Nat} {v : Value} {l : List α} {rs : List ρ} {Fs : List (List Nat)}
theorem Nest.nil (w : World) (lo ty : Nat) : Nest A E w lo ty (.slice none 0 0) [] [] [] := ⟨ownA_nil E w lo ty, rfl, rfl, by simp, by simp [Value.ownBlock], by simp, by simp [Free]⟩
theorem Nest.empty {ao : Option Addr} {cap : Nat} (h : OwnA E w lo ty (.slice ao 0 cap) []) : Nest A E w lo ty (.slice ao 0 cap) [] [] [] :=
  ⟨h, rfl, rfl, by simp, by simp only [List.flatten_nil, List.append_nil]; cases (Value.slice ao 0 cap).ownBlock <;> simp, by simp, by simp [Free]⟩
theorem Nest.ltF (h : Nest A E w lo ty v l rs Fs) : ∀ b ∈ Fs.flatten, b < w.heap.size := by
  intro b hb
  obtain ⟨G, hG, hb⟩ := List.mem_flatten.1 hb
  obtain ⟨i, hi⟩ := List.getElem?_of_mem hG
  have h1 := (List.getElem?_eq_some_iff.1 hi).1
  have h2 := h.lenF
  have h3 := h.len
  exact A.lt (h.els i _ _ G (List.getElem?_eq_getElem (by omega)) (List.getElem?_eq_getElem (by omega)) hi) b hb
theorem Nest.keep (h : Nest A E w lo ty v l rs Fs) {row : Option Nat} (hg : w.grownBy w' row) (hr : ∀ k, row = some k → k ∉ v.ownBlock.toList ++ Fs.flatten) : Nest A E w' lo ty v l rs Fs := by
  have hk : ∀ b ∈ Fs.flatten, w'.heap[b]? = w.heap[b]? := fun b hb => hg.block b (h.ltF b hb) (fun e => hr b e.symm (List.mem_append_right _ hb))
  refine ⟨h.own.apart hg (fun k h1 h2 => hr k h2 (by simp [h1])), h.len, h.lenF, fun i x r G h1 h2 h3 => A.keep (h.els i x r G h1 h2 h3) fun b hb => hk b (List.mem_flatten.2 ⟨G, List.mem_of_getElem? h3, hb⟩), h.nodup, h.low, h.free.keep hk⟩
theorem Nest.below (h : Nest A E w lo ty v l rs Fs) (hb : Below w.heap.size w w') : Nest A E w' lo ty v l rs Fs := h.keep (grown_of_below hb) (fun k hk => by cases hk)
/-- an element more -/
theorem Nest.push {w1 : World} {ao' : Option Addr} {cap' n : Nat} {x : α} {r : ρ} (h : Nest A E w lo ty v l rs Fs) (hb : Below w.heap.size w w1) (hx : Sp A w1 w.heap.size w1.heap.size x (E.cells r)) (hlo : lo ≤ w.heap.size)
    (ho : OwnA E w' lo ty (.slice ao' n cap') (rs ++ [r])) (hg : w1.grownBy w' v.ownBlock) (hat : (Value.slice ao' n cap').ownBlock = v.ownBlock ∨ (Value.slice ao' n cap').ownBlock = some w1.heap.size) :
    ∃ G, Nest A E w' lo ty (.slice ao' n cap') (l ++ [x]) (rs ++ [r]) (Fs ++ [G]) ∧ ∀ b ∈ G, w.heap.size ≤ b := by
  obtain ⟨G, x1, x2, x3, x4⟩ := hx
  have hlt := h.ltF
  have hown := h.own.2.2.lt
  have hnd := List.nodup_append.1 h.nodup
  have hsz := hb.size
  have hk1 : ∀ b ∈ Fs.flatten, w'.heap[b]? = w1.heap[b]? := fun b hb2 => hg.block b (by have := hlt b hb2; omega) (fun e => hnd.2.2 b (by rw [← e]; simp) b hb2 rfl)
  have hk : ∀ b ∈ Fs.flatten, w'.heap[b]? = w.heap[b]? := fun b hb2 => (hk1 b hb2).trans (hb.block b (hlt b hb2))
  have hkG : ∀ b ∈ G, w'.heap[b]? = w1.heap[b]? := fun b hb2 => hg.block b (x3 b hb2).2 (fun e => by have := (hown b e.symm).2; have := x3 b hb2; omega)
  have h2 := h.len
  have h3 := h.lenF
  refine ⟨G, ⟨ho, by simp [h2], by simp [h3], fun i y q H e1 e2 e3 => ?_, ?_, fun b hb2 => ?_, fun b hb2 => ?_⟩, fun b hb2 => (x3 b hb2).1⟩
  · by_cases hi : i < l.length
    · rw [List.getElem?_append_left hi] at e1
      rw [List.getElem?_append_left (by omega)] at e2
      rw [List.getElem?_append_left (by omega)] at e3
      exact A.keep (h.els i y q H e1 e2 e3) fun b hb2 => hk b (List.mem_flatten.2 ⟨H, List.mem_of_getElem? e3, hb2⟩)
    · have hil : i = l.length := by have := (List.getElem?_eq_some_iff.1 e1).1; simp at this; omega
      subst hil
      rw [List.getElem?_append_right (Nat.le_refl _)] at e1
      rw [List.getElem?_append_right (by omega), h2] at e2
      rw [List.getElem?_append_right (by omega), h3] at e3
      simp only [Nat.sub_self, List.getElem?_cons_zero, Option.some.injEq] at e1 e2 e3
      subst e1; subst e2; subst e3
      exact A.keep x1 hkG
  · rw [List.flatten_append, List.flatten_cons, List.flatten_nil, List.append_nil, ← List.append_assoc]
    refine List.nodup_append.2 ⟨?_, x2, fun a ha b hb2 e => ?_⟩
    · rcases hat with e | e
      · rw [e]; exact h.nodup
      · rw [e]
        refine List.nodup_append.2 ⟨by simp, hnd.2.1, fun a ha b hb2 e2 => ?_⟩
        simp only [Option.toList_some, List.mem_singleton] at ha
        have := hlt b hb2
        omega
    · subst e
      have h9 := x3 a hb2
      rcases List.mem_append.1 ha with ha | ha
      · rcases hat with e | e
        · rw [e] at ha
          have := (hown a (Option.mem_toList.1 ha)).2
          omega
        · rw [e] at ha
          simp only [Option.toList_some, List.mem_singleton] at ha
          omega
      · have := hlt a ha; omega
  · rw [List.flatten_append, List.flatten_cons, List.flatten_nil, List.append_nil] at hb2
    rcases List.mem_append.1 hb2 with hb2 | hb2
    · exact h.low b hb2
    · have := x3 b hb2; omega
  · rw [List.flatten_append, List.flatten_cons, List.flatten_nil, List.append_nil] at hb2
    rcases List.mem_append.1 hb2 with hb2 | hb2
    · rw [hk b hb2]; exact h.free b hb2
    · rw [hkG b hb2]; exact x4 b hb2
/-- as a value that is read, marked, held -/
theorem Nest.sp {ao : Option Addr} {cap : Nat} (hn : E.n = A.n) (h : Nest A E w lo ty (.slice ao l.length cap) l rs Fs) : Sp (listE A) w lo w.heap.size l [.slice ao l.length cap] := by
  have h2 := h.len
  have h3 := h.lenF
  have hlt := h.own.2.2.lt
  rcases h.own.2.2.2 with ⟨h4, h5⟩ | ⟨g, cap', cur, h4, hb, hg, hnc, hcm, hcs, htake⟩
  · have h6 : l = [] := List.eq_nil_of_length_eq_zero (by omega)
    subst h6
    simp only [List.length_nil, Value.slice.injEq] at h4
    obtain ⟨rfl, _, rfl⟩ := h4
    exact ⟨[], ⟨none, 0, rfl, by simp, by unfold maxLen; omega, .inl ⟨rfl, rfl⟩⟩, by simp, by simp, by simp [Free]⟩
  · simp only [Value.slice.injEq] at h4
    obtain ⟨rfl, h5, rfl⟩ := h4
    have hgl := (hlt g rfl).2
    refine ⟨g :: Fs.flatten, ⟨_, cap, rfl, by omega, hcm, .inr ⟨g, 0, Fs, rfl, hgl, rfl, h3, fun i x G e1 e2 => ?_⟩⟩, ?_, fun b hb2 => ?_, fun b hb2 => ?_⟩
    · have hi : i < l.length := (List.getElem?_eq_some_iff.1 e1).1
      have e3 : rs[i]? = some (rs[i]'(by omega)) := List.getElem?_eq_getElem (by omega)
      refine ⟨E.cells (rs[i]'(by omega)), h.els i x _ G e1 e3 e2, fun j c hc => ?_⟩
      have hrd := h.own
      rw [show l.length = rs.length by omega] at hrd
      obtain ⟨b, off, e4, _, e6⟩ := hrd.read.at (k := i) (by omega)
      simp only [Option.some.injEq, Addr.mk.injEq] at e4
      obtain ⟨rfl, rfl, _⟩ := e4
      rw [← hn]
      exact (e6 i (by omega)).2 j c hc
    · have := h.nodup
      simpa [Value.ownBlock] using this
    · rcases List.mem_cons.1 hb2 with rfl | hb2
      · exact ⟨hb, hgl⟩
      · exact ⟨h.low b hb2, h.ltF b hb2⟩
    · rcases List.mem_cons.1 hb2 with rfl | hb2
      · exact ⟨cur, ty, hg⟩
      · exact h.free b hb2
end
end Go.Proofs.Ytmjafclpeknpcaa
