/- An element of a slice of one's own is replaced by a value of its own. -/
import Derived.Test.YtmjafclpeknpcaaNest
namespace Go.Proofs.Ytmjafclpeknpcaa
open Go.ChangeShapes Go.WideShapes Go.ChangeAt Go.RowKit Go.Deep
theorem setRow_part : ∀ (cs mid pre post : List Value), mid.length = cs.length → setRow (pre ++ (mid ++ post)) pre.length cs = pre ++ (cs ++ post)
  | [], [], _, _, _ => rfl
  | c :: cs, m :: mid, pre, post, h => by
    rw [setRow, List.set_append_right _ _ (Nat.le_refl _), Nat.sub_self]
    have h2 := setRow_part cs mid (pre ++ [c]) post (by simpa using h)
    rw [List.length_append, List.length_singleton] at h2
    simpa using h2
  | [], _ :: _, _, _, h => by simp at h
  | _ :: _, [], _, _, h => by simp at h
theorem setRow_flat {ρ : Type} (E : Enc ρ) (rs : List ρ) (i : Nat) (r : ρ) (hi : i < rs.length) : setRow (rs.flatMap E.cells) (i * E.n) (E.cells r) = (rs.set i r).flatMap E.cells := by
  have e1 : rs = rs.take i ++ rs[i] :: rs.drop (i + 1) := by rw [← List.drop_eq_getElem_cons hi, List.take_append_drop]
  have e2 : rs.set i r = rs.take i ++ r :: rs.drop (i + 1) := List.set_eq_take_append_cons_drop .. |>.trans (by rw [if_pos hi])
  have hl : ((rs.take i).flatMap E.cells).length = i * E.n := by rw [length_flatMap, List.length_take, Nat.min_eq_left (Nat.le_of_lt hi)]
  rw [e2, List.flatMap_append, List.flatMap_cons, ← hl]
  conv => lhs; arg 1; rw [e1]
  rw [List.flatMap_append, List.flatMap_cons]
  exact setRow_part _ _ _ _ (by rw [E.len, E.len])
theorem mem_flatten_set : ∀ {Fs : List (List Nat)} {i : Nat} {G : List Nat} {b : Nat}, b ∈ (Fs.set i G).flatten → b ∈ G ∨ b ∈ Fs.flatten
  | [], _, _, _, h => by simp at h
  | L :: r, 0, G, b, h => by
    rw [List.set_cons_zero, List.flatten_cons] at h
    rcases List.mem_append.1 h with h | h
    · exact .inl h
    · exact .inr (by rw [List.flatten_cons]; exact List.mem_append_right _ h)
  | L :: r, i + 1, G, b, h => by
    rw [List.set_cons_succ, List.flatten_cons] at h
    rcases List.mem_append.1 h with h | h
    · exact .inr (by rw [List.flatten_cons]; exact List.mem_append_left _ h)
    · rcases mem_flatten_set h with h | h
      · exact .inl h
      · exact .inr (by rw [List.flatten_cons]; exact List.mem_append_right _ h)
theorem nodup_flatten_set : ∀ {Fs : List (List Nat)} {i : Nat} {G pre : List Nat}, (pre ++ Fs.flatten).Nodup → G.Nodup → (∀ b ∈ G, b ∉ pre ++ Fs.flatten) → (pre ++ (Fs.set i G).flatten).Nodup
  | [], _, _, _, h, _, _ => by simpa using h
  | L :: r, 0, G, pre, h, hG, hd => by
    rw [List.set_cons_zero, List.flatten_cons]
    rw [List.flatten_cons] at h hd
    have h1 := List.nodup_append.1 h
    have h2 := List.nodup_append.1 h1.2.1
    refine List.nodup_append.2 ⟨h1.1, List.nodup_append.2 ⟨hG, h2.2.1, fun a ha b hb e => ?_⟩, fun a ha b hb e => ?_⟩
    · subst e
      exact hd a ha (List.mem_append_right _ (List.mem_append_right _ hb))
    · subst e
      rcases List.mem_append.1 hb with hb | hb
      · exact hd a hb (List.mem_append_left _ ha)
      · exact h1.2.2 a ha a (List.mem_append_right _ hb) rfl
  | L :: r, i + 1, G, pre, h, hG, hd => by
    rw [List.set_cons_succ, List.flatten_cons, ← List.append_assoc]
    rw [List.flatten_cons, ← List.append_assoc] at h hd
    exact nodup_flatten_set h hG hd
theorem wsets_block {g : Nat} : ∀ (cs : List Value) (i : Nat) (w : World) (k : Nat), k ≠ g → (wsets w g i cs).heap[k]? = w.heap[k]?
  | [], _, _, _, _ => rfl
  | c :: cs, i, w, k, h => by
    rw [wsets, wsets_block cs _ _ k h]
    exact Below.heap_setCell w _ c k h
section
variable {α ρ : Type} {A : En α} {E : Enc ρ} {w : World} {lo ty g cap : Nat} {l : List α} {rs : List ρ} {Fs : List (List Nat)}
theorem Nest.set {i : Nat} {x : α} {r : ρ} {G : List Nat} (h : Nest A E w lo ty (.slice (some ⟨g, 0, none⟩) l.length cap) l rs Fs) (hi : i < l.length) (hx : A.rd w x (E.cells r) G) (hok : E.ok r) (hn : G.Nodup)
    (hd : ∀ b ∈ G, b ∉ g :: Fs.flatten) (hl : ∀ b ∈ G, lo ≤ b) (hf : Free w G) :
    Nest A E (wsets w g (i * E.n) (E.cells r)) lo ty (.slice (some ⟨g, 0, none⟩) l.length cap) (l.set i x) (rs.set i r) (Fs.set i G) := by
  have h2 := h.len
  have h3 := h.lenF
  have hnd : (g :: Fs.flatten).Nodup := h.nodup
  have hg := (List.nodup_cons.1 hnd).1
  have hk : ∀ k, k ∈ Fs.flatten ∨ k ∈ G → (wsets w g (i * E.n) (E.cells r)).heap[k]? = w.heap[k]? := fun k hk => wsets_block _ _ _ _ fun e => by
    subst e
    rcases hk with hk | hk
    · exact hg hk
    · exact hd k hk (by simp)
  refine ⟨⟨fun y hy => ?_, ?_, ?_⟩, by simp [h2], by simp [h3], fun j y q H e1 e2 e3 => ?_, ?_, fun b hb => ?_, fun b hb => ?_⟩
  · rcases List.mem_or_eq_of_mem_set hy with hy | hy
    · exact h.own.1 y hy
    · exact hy ▸ hok
  · rw [List.length_set]; exact h.own.2.1
  · have h5 := wsets_owns (E.cells r) (i * E.n) _ w (show w.ownsRow lo ty E.n (.slice (some ⟨g, 0, none⟩) rs.length cap) rs.length (rs.flatMap E.cells) by have := h.own.2.2; rwa [← h2] at this)
    rw [setRow_flat E rs i r (by omega)] at h5
    rw [← h2, List.length_set]
    exact h5
  · by_cases hij : i = j
    · subst hij
      rw [List.getElem?_set_self hi] at e1
      rw [List.getElem?_set_self (by omega)] at e2 e3
      obtain rfl := Option.some.inj e1
      obtain rfl := Option.some.inj e2
      obtain rfl := Option.some.inj e3
      exact A.keep hx fun b hb => hk b (.inr hb)
    · rw [List.getElem?_set_ne hij] at e1 e2 e3
      exact A.keep (h.els j y q H e1 e2 e3) fun b hb => hk b (.inl (List.mem_flatten.2 ⟨H, List.mem_of_getElem? e3, hb⟩))
  · exact nodup_flatten_set (pre := [g]) hnd hn hd
  · rcases mem_flatten_set hb with hb | hb
    · exact hl b hb
    · exact h.low b hb
  · rcases mem_flatten_set hb with hb | hb
    · rw [hk b (.inr hb)]; exact hf b hb
    · rw [hk b (.inl hb)]; exact h.free b hb
end
end Go.Proofs.Ytmjafclpeknpcaa
