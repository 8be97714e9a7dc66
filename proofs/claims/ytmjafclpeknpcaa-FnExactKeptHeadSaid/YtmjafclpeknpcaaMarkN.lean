/- Values of one's own that hold slices: what a mark changes, and what it leaves. -/
import Derived.Test.YtmjafclpeknpcaaOpenN
import Derived.Test.YtmjafclpeknpcaaNest
import Derived.Test.YtmjafclpeknpcaaMarks
namespace Go.Proofs.Ytmjafclpeknpcaa
open Go.ChangeShapes Go.WideShapes Go.ChangeAt Go.RowKit Go.Deep
/-- only the blocks of F are written -/
structure ChgF (w w' : World) (F : List Nat) : Prop where
  os : w'.os = w.os
  tape : w'.tape = w.tape
  output : w'.output = w.output
  size : w.heap.size ≤ w'.heap.size
  block : ∀ k, k < w.heap.size → k ∉ F → w'.heap[k]? = w.heap[k]?
theorem ChgF.refl (w : World) (F : List Nat) : ChgF w w F := ⟨rfl, rfl, rfl, Nat.le_refl _, fun _ _ _ => rfl⟩
theorem ChgF.trans {a b c : World} {F : List Nat} (h : ChgF a b F) (k : ChgF b c F) : ChgF a c F :=
  ⟨k.os.trans h.os, k.tape.trans h.tape, k.output.trans h.output, Nat.le_trans h.size k.size, fun i hi hn => (k.block i (Nat.lt_of_lt_of_le hi h.size) hn).trans (h.block i hi hn)⟩
theorem ChgF.wide {a b : World} {F G : List Nat} (h : ChgF a b F) (hs : ∀ k ∈ F, k ∈ G) : ChgF a b G := ⟨h.os, h.tape, h.output, h.size, fun i hi hn => h.block i hi fun hm => hn (hs i hm)⟩
theorem ChgF.of_grown {w w' : World} {row : Option Nat} (h : w.grownBy w' row) : ChgF w w' row.toList := ⟨h.os, h.tape, h.output, h.size, fun k hk hn => h.block k hk fun e => hn (by rw [← e]; simp)⟩
theorem ChgF.of_below {w w' : World} {F : List Nat} (h : Below w.heap.size w w') : ChgF w w' F := ⟨h.os, h.tape, h.output, h.size, fun k hk _ => h.block k hk⟩
theorem ChgF.out {w w' : World} {F : List Nat} {lo hi : Nat} (h : ChgF w w' F) (hb : ∀ b ∈ F, lo ≤ b ∧ b < hi) : Out lo hi w w' := ⟨h.os, h.tape, h.output, h.size, fun k hk hn => h.block k hk fun hm => hn (hb k hm)⟩
theorem ChgF.setCell (w : World) (a : Addr) (v : Value) : ChgF w (w.setCell a v) [a.block] :=
  ⟨rfl, rfl, rfl, by simp [World.setCell], fun k _ hn => Below.heap_setCell w a v k (fun e => hn (by simp [e]))⟩
theorem Free.setCell {w : World} {F : List Nat} (h : Free w F) (a : Addr) (v : Value) : Free (w.setCell a v) F := by
  intro b hb
  obtain ⟨cur, e, hc⟩ := h b hb
  obtain ⟨ab, o, spot⟩ := a
  by_cases hab : ab = b
  · subst hab
    have hlt : ab < w.heap.size := (Array.getElem?_eq_some_iff.1 hc).1
    cases spot with
    | none => exact ⟨cur.setIfInBounds o v, e, by simp [World.setCell, hc, Array.getElem?_modify]⟩
    | some sp => exact ⟨cur, e, by simp [World.setCell, hc, Array.getElem?_modify]⟩
  · exact ⟨cur, e, by rw [Below.heap_setCell w _ v b (fun e => hab e.symm)]; exact hc⟩
theorem owns_same {w w' : World} {lo ty n m : Nat} {v : Value} {xs : List Value} (h : w.ownsRow lo ty n v m xs) (hk : ∀ k, v.ownBlock = some k → w'.heap[k]? = w.heap[k]?) : w'.ownsRow lo ty n v m xs := by
  refine ⟨h.1, ?_⟩
  rcases h.2 with h2 | ⟨g, cap, cur, rfl, hb, hg, hr⟩
  · exact .inl h2
  · exact .inr ⟨g, cap, cur, rfl, hb, by rw [hk g rfl]; exact hg, hr⟩
/-- a row of numbers of its own -/
def ownI (ty : Nat) : En (List Int) where
  n := 1
  pos := by decide
  rd := fun w l vs F => ∃ ao cap, vs = [.slice ao l.length cap] ∧ IntsO w 0 ty (.slice ao l.length cap) l ∧ F = (Value.slice ao l.length cap).ownBlock.toList
  len := by rintro _ _ _ _ ⟨ao, cap, rfl, _⟩; rfl
  lt := by
    rintro w l vs F ⟨ao, cap, rfl, h, rfl⟩ b hb
    exact (h.2.2.lt b (Option.mem_toList.1 hb)).2
  keep := by
    rintro w w' l vs F ⟨ao, cap, rfl, h, rfl⟩ hk
    exact ⟨ao, cap, rfl, ⟨h.1, h.2.1, owns_same h.2.2 fun k hk2 => hk k (by rw [hk2]; simp)⟩, rfl⟩
/-- a slice of flat elements of its own -/
def ownE {α : Type} (E : Enc α) (ty : Nat) : En (List α) where
  n := 1
  pos := by decide
  rd := fun w l vs F => ∃ ao cap, vs = [.slice ao l.length cap] ∧ OwnA E w 0 ty (.slice ao l.length cap) l ∧ F = (Value.slice ao l.length cap).ownBlock.toList
  len := by rintro _ _ _ _ ⟨ao, cap, rfl, _⟩; rfl
  lt := by
    rintro w l vs F ⟨ao, cap, rfl, h, rfl⟩ b hb
    exact (h.2.2.lt b (Option.mem_toList.1 hb)).2
  keep := by
    rintro w w' l vs F ⟨ao, cap, rfl, h, rfl⟩ hk
    exact ⟨ao, cap, rfl, ⟨h.1, h.2.1, owns_same h.2.2 fun k hk2 => hk k (by rw [hk2]; simp)⟩, rfl⟩
theorem owns_free {w : World} {lo ty n m : Nat} {v : Value} {xs : List Value} (h : w.ownsRow lo ty n v m xs) : Free w v.ownBlock.toList := by
  intro b hb
  rcases h.2 with ⟨rfl, _⟩ | ⟨g, cap, cur, rfl, _, hg, _⟩
  · simp [Value.ownBlock] at hb
  · simp only [Value.ownBlock, Option.toList_some, List.mem_singleton] at hb
    subst hb
    exact ⟨cur, ty, hg⟩
theorem nodup_opt (o : Option Nat) : o.toList.Nodup := by cases o <;> simp
theorem owns_zero {w : World} {lo ty n m : Nat} {v : Value} {xs : List Value} (h : w.ownsRow lo ty n v m xs) : w.ownsRow 0 ty n v m xs := by
  refine ⟨h.1, ?_⟩
  rcases h.2 with h2 | ⟨g, cap, cur, rfl, _, hg⟩
  · exact .inl h2
  · exact .inr ⟨g, cap, cur, rfl, Nat.zero_le _, hg⟩
/-- what a call has made, as a value of its own -/
theorem sp_ints {w : World} {lo ty cap : Nat} {ao : Option Addr} {l : List Int} (h : IntsO w lo ty (.slice ao l.length cap) l) : Sp (ownI ty) w lo w.heap.size l [.slice ao l.length cap] :=
  ⟨_, ⟨ao, cap, rfl, ⟨h.1, h.2.1, owns_zero h.2.2⟩, rfl⟩, nodup_opt _, fun b hb => h.2.2.lt b (Option.mem_toList.1 hb), owns_free h.2.2⟩
theorem sp_rows {α : Type} {E : Enc α} {w : World} {lo ty cap : Nat} {ao : Option Addr} {l : List α} (h : OwnA E w lo ty (.slice ao l.length cap) l) : Sp (ownE E ty) w lo w.heap.size l [.slice ao l.length cap] :=
  ⟨_, ⟨ao, cap, rfl, ⟨h.1, h.2.1, owns_zero h.2.2⟩, rfl⟩, nodup_opt _, fun b hb => h.2.2.lt b (Option.mem_toList.1 hb), owns_free h.2.2⟩
theorem nodup_parts {Fs : List (List Nat)} {i j : Nat} {G H : List Nat} (hnd : Fs.flatten.Nodup) (h1 : Fs[i]? = some G) (h2 : Fs[j]? = some H) (hij : i ≠ j) (k : Nat) (hk1 : k ∈ G) (hk2 : k ∈ H) : False := by
  induction Fs generalizing i j with
  | nil => simp at h1
  | cons L r ih =>
    rw [List.flatten_cons] at hnd
    have h9 := List.nodup_append.1 hnd
    cases i with
    | zero =>
      cases j with
      | zero => exact hij rfl
      | succ j =>
        simp only [List.getElem?_cons_zero, List.getElem?_cons_succ, Option.some.injEq] at h1 h2
        subst h1
        exact h9.2.2 k hk1 k (List.mem_flatten.2 ⟨H, List.mem_of_getElem? h2, hk2⟩) rfl
    | succ i =>
      cases j with
      | zero =>
        simp only [List.getElem?_cons_zero, List.getElem?_cons_succ, Option.some.injEq] at h1 h2
        subst h2
        exact h9.2.2 k hk2 k (List.mem_flatten.2 ⟨G, List.mem_of_getElem? h1, hk1⟩) rfl
      | succ j =>
        simp only [List.getElem?_cons_succ] at h1 h2
        exact ih h9.2.1 h1 h2 (fun e => hij (by rw [e]))
section
variable {α β : Type} {A : En α} {w w' : World}
/-- a value inside a slice has changed, in its own blocks only -/
theorem ElsAt.sub {b off : Nat} {l : List α} {Fs : List (List Nat)} (h : ElsAt A w b off l Fs) (hnd : (b :: Fs.flatten).Nodup) {i : Nat} {x' : α} {G : List Nat} {vs : List Value} (hG : Fs[i]? = some G) (hi : i < l.length)
    (hx : A.rd w' x' vs G) (hv : ∀ j c, vs[j]? = some c → w.cell? ⟨b, off + i * A.n + j, none⟩ = some c) (hb : b < w.heap.size) (hc : ChgF w w' G) : ElsAt A w' b off (l.set i x') Fs := by
  have hnd2 := List.nodup_cons.1 hnd
  have hbG : b ∉ G := fun hm => hnd2.1 (List.mem_flatten.2 ⟨G, List.mem_of_getElem? hG, hm⟩)
  have hbk := hc.block b hb hbG
  refine ⟨by rw [List.length_set]; exact h.1, fun j y H e1 e2 => ?_⟩
  by_cases hij : i = j
  · subst hij
    rw [List.getElem?_set_self hi] at e1
    rw [hG] at e2
    obtain rfl := Option.some.inj e1
    obtain rfl := Option.some.inj e2
    exact ⟨vs, hx, fun k c hk => (World.cell?_of_block (a := ⟨b, off + i * A.n + k, none⟩) hbk).trans (hv k c hk)⟩
  · rw [List.getElem?_set_ne hij] at e1
    obtain ⟨us, h5, h6⟩ := h.2 j y H e1 e2
    refine ⟨us, A.keep h5 fun k hk => hc.block k (A.lt h5 k hk) fun hm => ?_, fun k c hk => (World.cell?_of_block (a := ⟨b, off + j * A.n + k, none⟩) hbk).trans (h6 k c hk)⟩
    exact nodup_parts hnd2.2 hG e2 hij k hm hk
/-- reading forgets whose a value is -/
theorem Rd.listMono {A B : En α} (hn : A.n = B.n) (hm : ∀ {w : World} {x : α} {vs : List Value} {G : List Nat}, A.rd w x vs G → ∃ G', B.rd w x vs G') {w : World} {l : List α} {vs : List Value} (h : Rd (listE A) w l vs) : Rd (listE B) w l vs := by
  obtain ⟨F, ao, cap, rfl, h1, h2, h3⟩ := h
  rcases h3 with ⟨rfl, _⟩ | ⟨b, off, Fs, rfl, hb, _, h4, h5⟩
  · exact ⟨[], ao, cap, rfl, h1, h2, .inl ⟨rfl, rfl⟩⟩
  · have hch : ∃ Gs : List (List Nat), Gs.length = l.length ∧ ∀ i x G, l[i]? = some x → Gs[i]? = some G → ∃ vs, B.rd w x vs G ∧ ∀ j c, vs[j]? = some c → w.cell? ⟨b, off + i * B.n + j, none⟩ = some c := by
      have key : ∀ k, k ≤ l.length → ∃ Gs : List (List Nat), Gs.length = k ∧ ∀ i x G, l[i]? = some x → Gs[i]? = some G → ∃ vs, B.rd w x vs G ∧ ∀ j c, vs[j]? = some c → w.cell? ⟨b, off + i * B.n + j, none⟩ = some c := by
        intro k
        induction k with
        | zero => exact fun _ => ⟨[], rfl, by simp⟩
        | succ k ih =>
          intro hk
          obtain ⟨Gs, g1, g2⟩ := ih (by omega)
          obtain ⟨vs, h6, h7⟩ := h5 k _ _ (List.getElem?_eq_getElem (by omega)) (List.getElem?_eq_getElem (by omega))
          obtain ⟨G', h8⟩ := hm h6
          refine ⟨Gs ++ [G'], by simp [g1], fun i x G e1 e2 => ?_⟩
          by_cases hik : i < k
          · rw [List.getElem?_append_left (by omega)] at e2
            exact g2 i x G e1 e2
          · have hik2 : i = k := by have := (List.getElem?_eq_some_iff.1 e2).1; simp at this; omega
            subst hik2
            rw [List.getElem?_append_right (by omega), g1, Nat.sub_self] at e2
            simp only [List.getElem?_cons_zero, Option.some.injEq] at e2
            subst e2
            rw [List.getElem?_eq_getElem (by omega)] at e1
            obtain rfl := Option.some.inj e1
            exact ⟨vs, h8, by rw [← hn]; exact h7⟩
      exact key l.length (Nat.le_refl _)
    obtain ⟨Gs, g1, g2⟩ := hch
    exact ⟨b :: Gs.flatten, _, cap, rfl, h1, h2, .inr ⟨b, off, Gs, rfl, hb, rfl, g1, g2⟩⟩
end
end Go.Proofs.Ytmjafclpeknpcaa
