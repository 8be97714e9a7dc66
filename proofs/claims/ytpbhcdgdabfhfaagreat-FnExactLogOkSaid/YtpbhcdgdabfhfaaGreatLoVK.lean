/- Functions that write into what is handed to them. No program in it. -/
import Derived.Test.YtpbhcdgdabfhfaaGreatLoVF
import Derived.Test.YtpbhcdgdabfhfaaGreatLoVD
namespace Go.Proofs.YtpbhcdgdabfhfaaGreat
open Go.ChangeShapes Go.WideShapes Go.ChangeAt Go.RowKit
set_option linter.unusedVariables false
section
variable {P : Program} {X : Cx} {S : St} {ρ : Rho} {a : Act} {w : World} {TT : List (Nat × TI)}
variable {Q : Exit → Act → World → Prop} {ops : Array Oper} {rest : List Oper}
theorem cut_at {α : Type} : ∀ {l : List α} {q : Nat} {x : α}, l[q]? = some x → l = l.take q ++ x :: l.drop (q + 1)
  | a :: l, 0, x, h => by simp only [List.getElem?_cons_zero, Option.some.injEq] at h; subst h; simp
  | a :: l, q + 1, x, h => by
    simp only [List.getElem?_cons_succ] at h
    simp only [List.take_succ_cons, List.drop_succ_cons, List.cons_append, List.cons.injEq, true_and]
    exact cut_at h
  | [], q, x, h => by simp at h
theorem set_at {α : Type} : ∀ {l : List α} {q : Nat} {x : α}, q < l.length → l.set q x = l.take q ++ x :: l.drop (q + 1)
  | a :: l, 0, x, h => by simp
  | a :: l, q + 1, x, h => by
    simp only [List.set_cons_succ, List.take_succ_cons, List.drop_succ_cons, List.cons_append, List.cons.injEq, true_and]
    exact set_at (by simpa using h)
  | [], q, x, h => by simp at h
/-- a slice within a slice of one's own: it may be put anew -/
theorem own_sub {ty n : Nat} {rows : List (List C)} {u : Value} {xs : List Value} {F : List Nat} {k j : Nat} {row : List C} {c : C} (h : OwS w ty n rows u xs F) (hk : rows[k]? = some row) (hj : row[j]? = some c) :
    ∃ (v : Value) (o G A D : List Nat), xs[k * n + j]? = some v ∧ OwX w c v G ∧ F = o ++ (A ++ (G ++ D)) ∧ ∀ (w' : World) (G' : List Nat) (c' : C), (∀ b ∈ o ++ (A ++ D), w'.heap[b]? = w.heap[b]?) → OwX w' c' v G' →
      OwS w' ty n (rows.set k (row.set j c')) u xs (o ++ (A ++ (G' ++ D))) := by
  obtain ⟨Fs, ⟨m1, m2, m3⟩, rfl⟩ := h
  have hfa := flat_at m2 hk hj
  obtain ⟨v, G, hx, hG, hr⟩ := m3.get hfa
  have hkl : k < rows.length := (List.getElem?_eq_some_iff.1 hk).1
  have hjl : j < row.length := (List.getElem?_eq_some_iff.1 hj).1
  have hrl : row.length = n := m2 row (List.mem_of_getElem? hk)
  refine ⟨v, u.ownBlock.toList, G, (Fs.take (k * n + j)).flatten, (Fs.drop (k * n + j + 1)).flatten, hx, hr, ?_, fun w' G' c' hw ho => ?_⟩
  · congr 1
    have := congrArg List.flatten (cut_at hG)
    rw [this]
    simp only [List.flatten_append, List.flatten_cons]
  · refine ⟨Fs.take (k * n + j) ++ G' :: Fs.drop (k * n + j + 1), ⟨?_, fun ds hds => ?_, ?_⟩, by simp [List.flatten_append, List.flatten_cons]⟩
    · have : w'.ownsRow 0 ty n u rows.length xs := owns_same' m1 fun b hb => hw b (List.mem_append_left _ (by rw [hb]; simp))
      rw [List.length_set]; exact this
    · rcases List.mem_or_eq_of_mem_set hds with h9 | h9
      · exact m2 ds h9
      · rw [h9, List.length_set]; exact hrl
    · have e : (rows.set k (row.set j c')).flatten = rows.flatten.take (k * n + j) ++ c' :: rows.flatten.drop (k * n + j + 1) := by
        rw [flat_set m2 hkl (by rw [List.length_set]; exact hrl), set_at hjl, flat_row m2 hk]
        have e1 := cut_l rows.flatten (m := k * n) (n := n) (o := j) (by omega)
        have e2 := cut_r rows.flatten (m := k * n) (n := n) (p := j + 1) (by omega)
        simp only [List.append_assoc, List.cons_append]
        rw [← List.append_assoc (rows.flatten.take (k * n)), e1, e2]
        rfl
      rw [e]
      have ex : xs = xs.take (k * n + j) ++ v :: xs.drop (k * n + j + 1) := cut_at hx
      rw [ex]
      refine All3.append (OwX.all_keep (m3.takeA _) fun b hb => hw b (List.mem_append_right _ (List.mem_append_left _ hb))) ⟨ho, OwX.all_keep (m3.dropA _) fun b hb => hw b (List.mem_append_right _ (List.mem_append_right _ hb))⟩
theorem own_typed {m : Nat} {c : List (List C)} {v : Value} {G : List Nat} (h : OwX w (.s m c) v G) : ∃ ty xs, OwS w ty m c v xs G := by
  obtain ⟨d, hd⟩ := h
  cases d with
  | zero => exact hd.elim
  | succ d =>
    obtain ⟨ty, xs, Fs, ⟨h1, h2, h3⟩, rfl⟩ := hd
    exact ⟨ty, xs, Fs, ⟨h1, h2, h3.mono fun c x G _ _ hr => ⟨d, hr⟩⟩, rfl⟩
end
end Go.Proofs.YtpbhcdgdabfhfaaGreat
