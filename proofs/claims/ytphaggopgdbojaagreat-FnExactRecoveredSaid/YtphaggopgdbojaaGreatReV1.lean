/- Contents of memory as trees: how they are read, how they are owned. No program in it. -/
import Derived.WalkKit
import Derived.WalkSpells
import Derived.ProofKit
import Derived.ChangeOld
import Derived.Laws.AppendOwn
import Derived.Below
namespace Go.Proofs.YtphaggopgdbojaaGreat
open Go.ChangeShapes Go.WideShapes Go.ChangeAt Go.RowKit
set_option linter.unusedVariables false

/-- a cell: this very value; a slice whose elements are rows of n cells each; the nil slice; anything -/
inductive C where
  | v (x : Value)
  | s (n : Nat) (l : List (List C))
  | nil
  | hole

/-- a cell of what is only read -/
def rcell (H : Nat → Option Obj) (b o : Nat) : Option Value :=
  match H b with
  | some (.cells cs _ _) => cs[o]?
  | _ => none
theorem rcell_mono {H G : Nat → Option Obj} (h : ∀ b o, H b = some o → G b = some o) {b o : Nat} {x : Value} (hx : rcell H b o = some x) : rcell G b o = some x := by
  unfold rcell at *
  cases hb : H b with
  | none => rw [hb] at hx; cases hx
  | some ob => rw [hb] at hx; rw [h b ob hb]; exact hx
theorem rcell_cell {w : World} {H : Nat → Option Obj} (h : ∀ b o, H b = some o → w.heap[b]? = some o) {b o : Nat} {x : Value} (hx : rcell H b o = some x) : w.cell? ⟨b, o, none⟩ = some x := by
  unfold rcell at hx
  unfold World.cell?
  cases hb : H b with
  | none => rw [hb] at hx; cases hx
  | some ob =>
    rw [hb] at hx
    simp only [h b ob hb]
    cases ob <;> first | exact hx | cases hx

/-- how a cell reads, d levels deep -/
def RdC (H : Nat → Option Obj) : Nat → C → Value → Prop
  | _, .v x, u => u = x ∧ x.oneCell' = true
  | _, .nil, u => u = .slice none 0 0
  | _, .hole, u => u.oneCell' = true
  | 0, .s _ _, _ => False
  | d + 1, .s n l, u => ∃ ao cap, u = .slice ao l.length cap ∧ l.length ≤ cap ∧ cap ≤ maxLen ∧ (∀ cs ∈ l, cs.length = n) ∧
      (l = [] ∨ ∃ b off, ao = some ⟨b, off, none⟩ ∧ ∀ k cs, l[k]? = some cs → ∀ j c, cs[j]? = some c → ∃ x, rcell H b (off + k * n + j) = some x ∧ RdC H d c x)
theorem RdC.mono {H G : Nat → Option Obj} (h : ∀ b o, H b = some o → G b = some o) : ∀ {d : Nat} {c : C} {u : Value}, RdC H d c u → RdC G d c u
  | d, .v x, u, hr => by cases d <;> exact hr
  | d, .nil, u, hr => by cases d <;> exact hr
  | d, .hole, u, hr => by cases d <;> exact hr
  | 0, .s _ _, _, hr => hr
  | d + 1, .s n l, u, hr => by
    obtain ⟨ao, cap, rfl, h1, h2, h3, h4⟩ := hr
    refine ⟨ao, cap, rfl, h1, h2, h3, ?_⟩
    rcases h4 with h4 | ⟨b, off, h5, h6⟩
    · exact .inl h4
    · refine .inr ⟨b, off, h5, fun k cs hk j c hj => ?_⟩
      obtain ⟨x, h7, h8⟩ := h6 k cs hk j c hj
      exact ⟨x, rcell_mono h h7, RdC.mono h h8⟩
theorem RdC.deep {H : Nat → Option Obj} : ∀ {d : Nat} {c : C} {u : Value}, RdC H d c u → RdC H (d + 1) c u
  | d, .v x, u, hr => by cases d <;> exact hr
  | d, .nil, u, hr => by cases d <;> exact hr
  | d, .hole, u, hr => by cases d <;> exact hr
  | 0, .s _ _, _, hr => hr.elim
  | d + 1, .s n l, u, hr => by
    obtain ⟨ao, cap, rfl, h1, h2, h3, h4⟩ := hr
    refine ⟨ao, cap, rfl, h1, h2, h3, ?_⟩
    rcases h4 with h4 | ⟨b, off, h5, h6⟩
    · exact .inl h4
    · refine .inr ⟨b, off, h5, fun k cs hk j c hj => ?_⟩
      obtain ⟨x, h7, h8⟩ := h6 k cs hk j c hj
      exact ⟨x, h7, RdC.deep h8⟩

theorem RdC.one {H : Nat → Option Obj} : ∀ {d : Nat} {c : C} {u : Value}, RdC H d c u → u.oneCell' = true
  | d, .v x, u, h => by cases d <;> (rw [h.1]; exact h.2)
  | d, .nil, u, h => by cases d <;> (rw [show u = _ from h]; rfl)
  | d, .hole, u, h => by cases d <;> exact h
  | 0, .s _ _, _, h => h.elim
  | d + 1, .s n l, u, h => by obtain ⟨ao, cap, rfl, _⟩ := h; rfl
theorem cells_one {u : Value} (h : u.oneCell' = true) : u.cells = #[u] := by cases u <;> first | rfl | (cases h; done)
/-- three lists, element by element -/
def All3 (R : C → Value → List Nat → Prop) : List C → List Value → List (List Nat) → Prop
  | [], [], [] => True
  | c :: cs, x :: xs, F :: Fs => R c x F ∧ All3 R cs xs Fs
  | _, _, _ => False
section
variable {R S : C → Value → List Nat → Prop}
theorem All3.len : ∀ {cs : List C} {xs : List Value} {Fs : List (List Nat)}, All3 R cs xs Fs → xs.length = cs.length ∧ Fs.length = cs.length
  | [], [], [], _ => ⟨rfl, rfl⟩
  | c :: cs, x :: xs, F :: Fs, h => by have := All3.len h.2; simp [this.1, this.2]
  | [], _ :: _, _, h => h.elim
  | [], [], _ :: _, h => h.elim
  | _ :: _, [], _, h => h.elim
  | _ :: _, _ :: _, [], h => h.elim
theorem All3.mono : ∀ {cs : List C} {xs : List Value} {Fs : List (List Nat)}, All3 R cs xs Fs → (∀ c x F, c ∈ cs → F ∈ Fs → R c x F → S c x F) → All3 S cs xs Fs
  | [], [], [], _, _ => trivial
  | c :: cs, x :: xs, F :: Fs, h, hm => ⟨hm c x F (by simp) (by simp) h.1, All3.mono h.2 fun c x F hc hF => hm c x F (by simp [hc]) (by simp [hF])⟩
  | [], _ :: _, _, h, _ => h.elim
  | [], [], _ :: _, h, _ => h.elim
  | _ :: _, [], _, h, _ => h.elim
  | _ :: _, _ :: _, [], h, _ => h.elim
theorem All3.append : ∀ {cs ds : List C} {xs ys : List Value} {Fs Gs : List (List Nat)}, All3 R cs xs Fs → All3 R ds ys Gs → All3 R (cs ++ ds) (xs ++ ys) (Fs ++ Gs)
  | [], _, [], _, [], _, _, k => k
  | c :: cs, _, x :: xs, _, F :: Fs, _, h, k => ⟨h.1, All3.append h.2 k⟩
  | [], _, _ :: _, _, _, _, h, _ => h.elim
  | [], _, [], _, _ :: _, _, h, _ => h.elim
  | _ :: _, _, [], _, _, _, h, _ => h.elim
  | _ :: _, _, _ :: _, _, [], _, h, _ => h.elim
theorem All3.get : ∀ {cs : List C} {xs : List Value} {Fs : List (List Nat)} {i : Nat} {c : C}, All3 R cs xs Fs → cs[i]? = some c → ∃ x F, xs[i]? = some x ∧ Fs[i]? = some F ∧ R c x F
  | c :: cs, x :: xs, F :: Fs, 0, _, h, hc => by
    simp only [List.getElem?_cons_zero, Option.some.injEq] at hc; subst hc
    exact ⟨x, F, rfl, rfl, h.1⟩
  | c :: cs, x :: xs, F :: Fs, i + 1, d, h, hc => by
    simp only [List.getElem?_cons_succ] at hc ⊢
    exact All3.get h.2 hc
  | [], _, _, _, _, _, hc => by simp at hc
  | _ :: _, [], _, _, _, h, _ => h.elim
  | _ :: _, _ :: _, [], _, _, h, _ => h.elim
theorem All3.set : ∀ {cs : List C} {xs : List Value} {Fs : List (List Nat)} (i : Nat) {c : C} {x : Value} {F : List Nat}, All3 R cs xs Fs → R c x F → All3 R (cs.set i c) (xs.set i x) (Fs.set i F)
  | [], [], [], _, _, _, _, _, _ => trivial
  | _ :: _, _ :: _, _ :: _, 0, _, _, _, h, k => ⟨k, h.2⟩
  | _ :: _, _ :: _, _ :: _, i + 1, _, _, _, h, k => ⟨h.1, All3.set i h.2 k⟩
  | [], _ :: _, _, _, _, _, _, h, _ => h.elim
  | [], [], _ :: _, _, _, _, _, h, _ => h.elim
  | _ :: _, [], _, _, _, _, _, h, _ => h.elim
  | _ :: _, _ :: _, [], _, _, _, _, h, _ => h.elim
end

/-- a slice of one's own: u, whose cells are xs and whose blocks are F -/
def OwSR (R : C → Value → List Nat → Prop) (w : World) (ty n : Nat) (l : List (List C)) (u : Value) (xs : List Value) (Fs : List (List Nat)) : Prop :=
  w.ownsRow 0 ty n u l.length xs ∧ (∀ cs ∈ l, cs.length = n) ∧ All3 R l.flatten xs Fs
/-- how a cell of one's own lies in memory -/
def OwC (w : World) : Nat → C → Value → List Nat → Prop
  | _, .v x, u, F => (u = x ∧ x.oneCell' = true) ∧ F = []
  | _, .nil, u, F => u = .slice none 0 0 ∧ F = []
  | _, .hole, u, F => u.oneCell' = true ∧ F = []
  | 0, .s _ _, _, _ => False
  | d + 1, .s n l, u, F => ∃ ty xs Fs, OwSR (OwC w d) w ty n l u xs Fs ∧ F = u.ownBlock.toList ++ Fs.flatten
/-- at some depth -/
def RdX (H : Nat → Option Obj) (c : C) (u : Value) : Prop := ∃ d, RdC H d c u
def OwX (w : World) (c : C) (u : Value) (F : List Nat) : Prop := ∃ d, OwC w d c u F
def OwS (w : World) (ty n : Nat) (l : List (List C)) (u : Value) (xs : List Value) (F : List Nat) : Prop :=
  ∃ Fs, OwSR (OwX w) w ty n l u xs Fs ∧ F = u.ownBlock.toList ++ Fs.flatten
theorem RdX.mono {H G : Nat → Option Obj} (h : ∀ b o, H b = some o → G b = some o) {c : C} {u : Value} (hr : RdX H c u) : RdX G c u := let ⟨d, hd⟩ := hr; ⟨d, hd.mono h⟩
theorem RdX.one {H : Nat → Option Obj} {c : C} {u : Value} (hr : RdX H c u) : u.oneCell' = true := let ⟨_, hd⟩ := hr; hd.one

theorem owns_same' {w w' : World} {lo ty n m : Nat} {v : Value} {xs : List Value} (h : w.ownsRow lo ty n v m xs) (hk : ∀ k, v.ownBlock = some k → w'.heap[k]? = w.heap[k]?) : w'.ownsRow lo ty n v m xs := by
  refine ⟨h.1, ?_⟩
  rcases h.2 with h2 | ⟨g, cap, cur, rfl, hb, hg, hr⟩
  · exact .inl h2
  · exact .inr ⟨g, cap, cur, rfl, hb, by rw [hk g rfl]; exact hg, hr⟩
theorem OwC.keep {w w' : World} : ∀ {d : Nat} {c : C} {u : Value} {F : List Nat}, OwC w d c u F → (∀ b ∈ F, w'.heap[b]? = w.heap[b]?) → OwC w' d c u F
  | d, .v x, u, F, h, _ => by cases d <;> exact h
  | d, .nil, u, F, h, _ => by cases d <;> exact h
  | d, .hole, u, F, h, _ => by cases d <;> exact h
  | 0, .s _ _, _, _, h, _ => h
  | d + 1, .s n l, u, F, h, hk => by
    obtain ⟨ty, xs, Fs, ⟨h1, h2, h3⟩, rfl⟩ := h
    refine ⟨ty, xs, Fs, ⟨owns_same' h1 fun k hk2 => hk k (by simp [hk2]), h2, h3.mono fun c x G _ hG hr => hr.keep fun b hb => hk b ?_⟩, rfl⟩
    exact List.mem_append_right _ (List.mem_flatten.2 ⟨G, hG, hb⟩)
theorem OwC.lt {w : World} : ∀ {d : Nat} {c : C} {u : Value} {F : List Nat}, OwC w d c u F → ∀ b ∈ F, b < w.heap.size
  | d, .v x, u, F, h, b, hb => by cases d <;> (rw [h.2] at hb; simp at hb)
  | d, .nil, u, F, h, b, hb => by cases d <;> (rw [h.2] at hb; simp at hb)
  | d, .hole, u, F, h, b, hb => by cases d <;> (rw [h.2] at hb; simp at hb)
  | 0, .s _ _, _, _, h, _, _ => h.elim
  | d + 1, .s n l, u, F, h, b, hb => by
    obtain ⟨ty, xs, Fs, ⟨h1, h2, h3⟩, rfl⟩ := h
    rcases List.mem_append.1 hb with hb | hb
    · exact (h1.lt b (Option.mem_toList.1 hb)).2
    · obtain ⟨G, hG, hb⟩ := List.mem_flatten.1 hb
      have key : ∀ {cs : List C} {xs : List Value} {Fs : List (List Nat)}, All3 (OwC w d) cs xs Fs → ∀ G ∈ Fs, ∀ b ∈ G, b < w.heap.size := by
        intro cs
        induction cs with
        | nil =>
          intro xs Fs h G hG
          match xs, Fs, h with
          | [], [], _ => simp at hG
          | [], _ :: _, h => exact h.elim
          | _ :: _, _, h => exact h.elim
        | cons c cs ih =>
          intro xs Fs h G hG b hb
          match xs, Fs, h with
          | x :: xs, F :: Fs, h =>
            rcases List.mem_cons.1 hG with rfl | hG
            · exact h.1.lt b hb
            · exact ih h.2 G hG b hb
          | [], _, h => exact h.elim
          | _ :: _, [], h => exact h.elim
      exact key h3 G hG b hb
/-- what is one's own is read -/
theorem OwC.read {w : World} {H : Nat → Option Obj} : ∀ {d : Nat} {c : C} {u : Value} {F : List Nat}, OwC w d c u F → (∀ b ∈ F, H b = w.heap[b]?) → RdC H d c u
  | d, .v x, u, F, h, _ => by cases d <;> exact h.1
  | d, .nil, u, F, h, _ => by cases d <;> exact h.1
  | d, .hole, u, F, h, _ => by cases d <;> exact h.1
  | 0, .s _ _, _, _, h, _ => h.elim
  | d + 1, .s n l, u, F, h, hk => by
    obtain ⟨ty, xs, Fs, ⟨h1, h2, h3⟩, rfl⟩ := h
    rcases h1.2 with ⟨rfl, h0⟩ | ⟨g, cap, cur, rfl, hb, hg, hnc, hcm, hcs, htake⟩
    · have hl : l = [] := List.eq_nil_of_length_eq_zero h0
      subst hl
      exact ⟨none, 0, rfl, Nat.le_refl _, by simp [maxLen], by simp, .inl rfl⟩
    · refine ⟨_, cap, rfl, hnc, hcm, h2, ?_⟩
      right
      refine ⟨g, 0, rfl, fun k cs hcs2 j c hj => ?_⟩
      have hkl : k < l.length := (List.getElem?_eq_some_iff.1 hcs2).1
      have hcn : cs.length = n := h2 cs (List.mem_of_getElem? hcs2)
      have hjn : j < n := by rw [← hcn]; exact (List.getElem?_eq_some_iff.1 hj).1
      have hfl : ∀ (l : List (List C)) (k : Nat), (∀ cs ∈ l, cs.length = n) → l[k]? = some cs → l.flatten[k * n + j]? = some c := by
        intro l
        induction l with
        | nil => intro k _ h; simp at h
        | cons a r ih =>
          intro k hall h
          have ha : a.length = n := hall a (by simp)
          cases k with
          | zero =>
            simp only [List.getElem?_cons_zero, Option.some.injEq] at h
            subst h
            rw [List.flatten_cons, Nat.zero_mul, Nat.zero_add, List.getElem?_append_left (by omega)]
            exact hj
          | succ k =>
            simp only [List.getElem?_cons_succ] at h
            rw [List.flatten_cons, List.getElem?_append_right (by rw [Nat.succ_mul]; omega), show (k + 1) * n + j - a.length = k * n + j by rw [Nat.succ_mul]; omega]
            exact ih k (fun cs hcs => hall cs (by simp [hcs])) h
      obtain ⟨x, G, hx, hG, hr⟩ := h3.get (hfl l k h2 hcs2)
      refine ⟨x, ?_, ?_⟩
      · unfold rcell
        rw [hk g (by simp [Value.ownBlock]), hg]
        simp only [Nat.zero_add]
        rw [← htake, List.getElem?_take] at hx
        split at hx
        · simpa using hx
        · cases hx
      · exact hr.read fun b hb => hk b (List.mem_append_right _ (List.mem_flatten.2 ⟨G, List.mem_of_getElem? hG, hb⟩))
theorem OwC.deep {w : World} : ∀ {d : Nat} {c : C} {u : Value} {F : List Nat}, OwC w d c u F → OwC w (d + 1) c u F
  | d, .v x, u, F, h => by cases d <;> exact h
  | d, .nil, u, F, h => by cases d <;> exact h
  | d, .hole, u, F, h => by cases d <;> exact h
  | 0, .s _ _, _, _, h => h.elim
  | d + 1, .s n l, u, F, h => by
    obtain ⟨ty, xs, Fs, ⟨h1, h2, h3⟩, rfl⟩ := h
    exact ⟨ty, xs, Fs, ⟨h1, h2, h3.mono fun c x G _ _ hr => hr.deep⟩, rfl⟩
theorem OwC.deepN {w : World} {c : C} {u : Value} {F : List Nat} {d : Nat} (h : OwC w d c u F) : ∀ k, OwC w (d + k) c u F
  | 0 => h
  | k + 1 => (OwC.deepN h k).deep
theorem OwX.all {w : World} : ∀ {cs : List C} {xs : List Value} {Fs : List (List Nat)}, All3 (OwX w) cs xs Fs → ∃ d, All3 (OwC w d) cs xs Fs
  | [], [], [], _ => ⟨0, trivial⟩
  | c :: cs, x :: xs, F :: Fs, h => by
    obtain ⟨d, h1⟩ := h.1
    obtain ⟨e, h2⟩ := OwX.all h.2
    refine ⟨d + e, h1.deepN e, h2.mono fun c x F _ _ hr => ?_⟩
    rw [Nat.add_comm]; exact hr.deepN d
  | [], _ :: _, _, h => h.elim
  | [], [], _ :: _, h => h.elim
  | _ :: _, [], _, h => h.elim
  | _ :: _, _ :: _, [], h => h.elim
theorem OwX.keep {w w' : World} {c : C} {u : Value} {F : List Nat} (h : OwX w c u F) (hk : ∀ b ∈ F, w'.heap[b]? = w.heap[b]?) : OwX w' c u F := let ⟨d, hd⟩ := h; ⟨d, hd.keep hk⟩
theorem OwX.lt {w : World} {c : C} {u : Value} {F : List Nat} (h : OwX w c u F) : ∀ b ∈ F, b < w.heap.size := let ⟨_, hd⟩ := h; hd.lt
theorem OwX.read {w : World} {H : Nat → Option Obj} {c : C} {u : Value} {F : List Nat} (h : OwX w c u F) (hk : ∀ b ∈ F, H b = w.heap[b]?) : RdX H c u := let ⟨d, hd⟩ := h; ⟨d, hd.read hk⟩
theorem OwS.c {w : World} {ty n : Nat} {l : List (List C)} {u : Value} {xs : List Value} {F : List Nat} (h : OwS w ty n l u xs F) : OwX w (.s n l) u F := by
  obtain ⟨Fs, ⟨h0, h1, h2⟩, h3⟩ := h
  obtain ⟨d, h4⟩ := OwX.all h2
  exact ⟨d + 1, ty, xs, Fs, ⟨h0, h1, h4⟩, h3⟩
theorem OwS.keep {w w' : World} {ty n : Nat} {l : List (List C)} {u : Value} {xs : List Value} {F : List Nat} (h : OwS w ty n l u xs F) (hk : ∀ b ∈ F, w'.heap[b]? = w.heap[b]?) : OwS w' ty n l u xs F := by
  obtain ⟨Fs, ⟨h1, h2, h3⟩, rfl⟩ := h
  exact ⟨Fs, ⟨owns_same' h1 fun k hk2 => hk k (by simp [hk2]), h2, h3.mono fun c x G _ hG hr => hr.keep fun b hb => hk b (List.mem_append_right _ (List.mem_flatten.2 ⟨G, hG, hb⟩))⟩, rfl⟩
theorem OwS.lt {w : World} {ty n : Nat} {l : List (List C)} {u : Value} {xs : List Value} {F : List Nat} (h : OwS w ty n l u xs F) : ∀ b ∈ F, b < w.heap.size := h.c.lt
end Go.Proofs.YtphaggopgdbojaaGreat
