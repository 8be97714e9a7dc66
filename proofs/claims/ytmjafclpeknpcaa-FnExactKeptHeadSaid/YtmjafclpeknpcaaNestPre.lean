/- A slice that is made whole and then filled, element by element, with values that hold slices. -/
import Derived.Test.YtmjafclpeknpcaaNestSet
import Derived.Test.YtmjafclpeknpcaaMarkN
namespace Go.Proofs.Ytmjafclpeknpcaa
open Go.ChangeShapes Go.WideShapes Go.ChangeAt Go.RowKit Go.Deep
/-- a slice value as it lies in a cell -/
def rawS : Enc (Option Addr × Nat × Nat) := { n := 1, cells := fun d => [.slice d.1 d.2.1 d.2.2], len := fun _ => rfl, pos := by decide, ok := fun _ => True }
def rawW : Enc (Int × Option Addr × Nat × Nat) := { n := 2, cells := fun d => [.int .i64 d.1, .slice d.2.1 d.2.2.1 d.2.2.2], len := fun _ => rfl, pos := by decide, ok := fun _ => True }
theorem rawS_one : ∀ d : Option Addr × Nat × Nat, ∀ u ∈ rawS.cells d, u.oneCell' = true := by
  intro d u hu
  simp only [rawS, List.mem_cons, List.not_mem_nil, or_false] at hu
  subst hu
  rfl
theorem rawW_one : ∀ d : Int × Option Addr × Nat × Nat, ∀ u ∈ rawW.cells d, u.oneCell' = true := by
  intro d u hu
  simp only [rawW, List.mem_cons, List.not_mem_nil, or_false] at hu
  rcases hu with rfl | rfl <;> rfl
theorem setRow_take {cs xs : List Value} {k : Nat} (hk : k + cs.length ≤ xs.length) : (setRow xs k cs).take (k + cs.length) = xs.take k ++ cs := by
  have e1 : xs = xs.take k ++ ((xs.drop k).take cs.length ++ xs.drop (k + cs.length)) := by
    rw [← List.drop_drop, List.take_append_drop, List.take_append_drop]
  have hl : (xs.take k).length = k := by rw [List.length_take, Nat.min_eq_left (by omega)]
  have h1 := setRow_part cs ((xs.drop k).take cs.length) (xs.take k) (xs.drop (k + cs.length)) (by rw [List.length_take, List.length_drop]; omega)
  rw [← e1, hl] at h1
  rw [h1, ← List.append_assoc, List.take_append_of_le_length (by rw [List.length_append, hl]; omega), List.take_of_length_le (by rw [List.length_append, hl]; omega)]
section
variable {α ρ : Type}
/-- the first elements are set -/
structure NestPre (A : En α) (E : Enc ρ) (w : World) (lo ty g n cap : Nat) (l : List α) (rs : List ρ) (Fs : List (List Nat)) : Prop where
  own : ∃ xs, w.ownsRow lo ty E.n (.slice (some ⟨g, 0, none⟩) n cap) n xs ∧ xs.take (l.length * E.n) = rs.flatMap E.cells
  ok : ∀ r ∈ rs, E.ok r
  len : rs.length = l.length
  lenF : Fs.length = l.length
  els : ∀ (i : Nat) (x : α) (r : ρ) (G : List Nat), l[i]? = some x → rs[i]? = some r → Fs[i]? = some G → A.rd w x (E.cells r) G
  nodup : (g :: Fs.flatten).Nodup
  low : ∀ b ∈ Fs.flatten, lo ≤ b
  free : Free w Fs.flatten
variable {A : En α} {E : Enc ρ} {w w1 : World} {lo ty g n cap : Nat} {l : List α} {rs : List ρ} {Fs : List (List Nat)}
theorem NestPre.start {xs : List Value} (h : w.ownsRow lo ty E.n (.slice (some ⟨g, 0, none⟩) n cap) n xs) : NestPre A E w lo ty g n cap [] [] [] :=
  ⟨⟨xs, h, by simp⟩, by simp, rfl, rfl, by simp, by simp, by simp, by simp [Free]⟩
theorem NestPre.ltF (h : NestPre A E w lo ty g n cap l rs Fs) : ∀ b ∈ Fs.flatten, b < w.heap.size := by
  intro b hb
  obtain ⟨G, hG, hb⟩ := List.mem_flatten.1 hb
  obtain ⟨i, hi⟩ := List.getElem?_of_mem hG
  have h1 := (List.getElem?_eq_some_iff.1 hi).1
  have h2 := h.lenF
  have h3 := h.len
  exact A.lt (h.els i _ _ G (List.getElem?_eq_getElem (by omega)) (List.getElem?_eq_getElem (by omega)) hi) b hb
theorem NestPre.ltg (h : NestPre A E w lo ty g n cap l rs Fs) : lo ≤ g ∧ g < w.heap.size := by
  obtain ⟨xs, h1, _⟩ := h.own
  exact h1.lt g rfl
theorem NestPre.below (h : NestPre A E w lo ty g n cap l rs Fs) (hb : Below w.heap.size w w1) : NestPre A E w1 lo ty g n cap l rs Fs := by
  have hlt := h.ltF
  have hg := h.ltg
  obtain ⟨xs, h1, h2⟩ := h.own
  refine ⟨⟨xs, owns_same h1 fun k hk => ?_, h2⟩, h.ok, h.len, h.lenF, fun i x r G e1 e2 e3 => En.below (h.els i x r G e1 e2 e3) hb, h.nodup, h.low, h.free.keep fun b hb2 => hb.block b (hlt b hb2)⟩
  simp only [Value.ownBlock, Option.some.injEq] at hk
  subst hk
  exact hb.block _ hg.2
/-- where the next element goes -/
theorem NestPre.cell (h : NestPre A E w lo ty g n cap l rs Fs) (hl : l.length < n) {j : Nat} (hj : j < E.n) : (∃ u, w.cell? ⟨g, l.length * E.n + j, none⟩ = some u) ∧ w.frozen? ⟨g, l.length * E.n + j, none⟩ = false := by
  obtain ⟨xs, h1, _⟩ := h.own
  have hb : l.length * E.n + j < n * E.n := Nat.lt_of_lt_of_le (by omega) (show l.length * E.n + E.n ≤ n * E.n by rw [← Nat.succ_mul]; exact Nat.mul_le_mul_right _ hl)
  refine ⟨⟨xs[l.length * E.n + j]'(by rw [h1.1]; exact hb), ?_⟩, h1.frozenAt _⟩
  rw [h1.cellAt _ hb]
  exact List.getElem?_eq_getElem _
theorem NestPre.step {x : α} {r : ρ} (h : NestPre A E w lo ty g n cap l rs Fs) (hb : Below w.heap.size w w1) (hx : Sp A w1 w.heap.size w1.heap.size x (E.cells r)) (hok : E.ok r) (hl : l.length < n) (hlo : lo ≤ w.heap.size) :
    ∃ G, NestPre A E (wsets w1 g (l.length * E.n) (E.cells r)) lo ty g n cap (l ++ [x]) (rs ++ [r]) (Fs ++ [G]) := by
  obtain ⟨G, x1, x2, x3, x4⟩ := hx
  have hlt := h.ltF
  have hgg := h.ltg
  have h' := h.below hb
  obtain ⟨xs, h1, h2⟩ := h'.own
  have h3 := h.len
  have h4 := h.lenF
  have hnd := List.nodup_cons.1 h.nodup
  have hbn : l.length * E.n + E.n ≤ n * E.n := by rw [← Nat.succ_mul]; exact Nat.mul_le_mul_right _ hl
  have hk : ∀ k, k ∈ Fs.flatten ∨ k ∈ G → (wsets w1 g (l.length * E.n) (E.cells r)).heap[k]? = w1.heap[k]? := fun k hk => wsets_block _ _ _ _ fun e => by
    subst e
    rcases hk with hk | hk
    · exact hnd.1 hk
    · have := x3 k hk; omega
  refine ⟨G, ⟨setRow xs (l.length * E.n) (E.cells r), wsets_owns _ _ _ _ h1, ?_⟩, fun q hq => ?_, by simp [h3], by simp [h4], fun i y q H e1 e2 e3 => ?_, ?_, fun b hb2 => ?_, fun b hb2 => ?_⟩
  · rw [List.length_append, List.length_singleton, Nat.succ_mul, List.flatMap_append, List.flatMap_cons, List.flatMap_nil, List.append_nil, ← h2]
    have h9 := setRow_take (cs := E.cells r) (xs := xs) (k := l.length * E.n) (by rw [E.len, h1.1]; exact hbn)
    rw [E.len] at h9
    exact h9
  · rcases List.mem_append.1 hq with hq | hq
    · exact h.ok q hq
    · rw [List.mem_singleton.1 hq]; exact hok
  · by_cases hi : i < l.length
    · rw [List.getElem?_append_left hi] at e1
      rw [List.getElem?_append_left (by omega)] at e2 e3
      exact A.keep (h'.els i y q H e1 e2 e3) fun b hb2 => hk b (.inl (List.mem_flatten.2 ⟨H, List.mem_of_getElem? e3, hb2⟩))
    · have hil : i = l.length := by have := (List.getElem?_eq_some_iff.1 e1).1; simp at this; omega
      subst hil
      rw [List.getElem?_append_right (Nat.le_refl _)] at e1
      rw [List.getElem?_append_right (by omega), h3] at e2
      rw [List.getElem?_append_right (by omega), h4] at e3
      simp only [Nat.sub_self, List.getElem?_cons_zero, Option.some.injEq] at e1 e2 e3
      subst e1; subst e2; subst e3
      exact A.keep x1 fun b hb2 => hk b (.inr hb2)
  · rw [List.flatten_append, List.flatten_cons, List.flatten_nil, List.append_nil, ← List.cons_append]
    refine List.nodup_append.2 ⟨h.nodup, x2, fun a ha b hb2 e => ?_⟩
    subst e
    have := x3 a hb2
    rcases List.mem_cons.1 ha with rfl | ha
    · omega
    · have := hlt a ha; omega
  · rw [List.flatten_append, List.flatten_cons, List.flatten_nil, List.append_nil] at hb2
    rcases List.mem_append.1 hb2 with hb2 | hb2
    · exact h.low b hb2
    · have := x3 b hb2; omega
  · rw [List.flatten_append, List.flatten_cons, List.flatten_nil, List.append_nil] at hb2
    rcases List.mem_append.1 hb2 with hb2 | hb2
    · rw [hk b (.inl hb2)]; exact h'.free b hb2
    · rw [hk b (.inr hb2)]; exact x4 b hb2
theorem NestPre.done (h : NestPre A E w lo ty g n cap l rs Fs) (hl : l.length = n) (hm : n ≤ 9223372036854775807) : Nest A E w lo ty (.slice (some ⟨g, 0, none⟩) l.length cap) l rs Fs := by
  obtain ⟨xs, h1, h2⟩ := h.own
  have h3 := h.len
  subst hl
  have hxs : xs = rs.flatMap E.cells := by rw [← h2, List.take_of_length_le (by rw [h1.1]; exact Nat.le_refl _)]
  subst hxs
  exact ⟨⟨h.ok, by omega, by rw [h3]; exact h1⟩, h3, h.lenF, h.els, h.nodup, h.low, h.free⟩
end
/-- how much a list of rows is counted -/
def lenSum (K : List (List Int)) : Nat := (K.map List.length).sum
theorem lenSum_take {K : List (List Int)} {k : Nat} (hk : k < K.length) : lenSum (K.take (k + 1)) = lenSum (K.take k) + K[k].length := by
  unfold lenSum
  rw [List.take_succ_eq_append_getElem hk, List.map_append, List.sum_append]
  simp
theorem lenSum_le (K : List (List Int)) (k : Nat) : lenSum (K.take k) ≤ lenSum K := by
  have h : lenSum K = lenSum (K.take k) + lenSum (K.drop k) := by
    unfold lenSum
    rw [← List.sum_append, ← List.map_append, List.take_append_drop]
  omega
def szRows (K : List (List Int)) : Nat := K.length + lenSum K
def wrows (W : List (Int × List Int)) : List (List Int) := W.map Prod.snd
def szWrites (W : List (Int × List Int)) : Nat := W.length + lenSum (wrows W)
end Go.Proofs.Ytmjafclpeknpcaa
